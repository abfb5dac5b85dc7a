/- What walks of Go code need. No condition. -/
import Derived.Test.YtiemmklnnjembaaGreatROT2
import Derived.KernelRfl
import Derived.Laws.StructEq
import Derived.Laws.Strings
import Derived.Laws.BitsLemmas
namespace Go.TI
open Go Go.RowKit
def e8 {γ:Type} (P:Program) (f:FuncId) (t e sz:Nat) (enc:γ->List TV) (g:FuncId) (l l':List γ):Prop:=
 ∀(w:World) (b:Nat) (v:Value) (T:TypeId),w.heap[b]?=some (.cells #[v] T (0,0))->w.ownsRow 0 e sz v l.length ((Ah enc l).map TV.val)->b∉C5 v->
  Calls P f #[.iface t v,.func (.func g) #[] #[.pointer (some ⟨b,0,none⟩)]] w fun r w'=>r= .returned (.tuple #[])/\Kq w w' (b::C5 v)/\w'.heap[b]?=some (.cells #[v] T (0,0))/\w'.ownsRow 0 e sz v l'.length ((Ah enc l').map TV.val)
section
variable {w0:Base} {FA UA:List Nat} {N:Nat} {w:World} {a:Act} {E:St} {blk:Root->Nat} {FS US:Root->List Nat} {P:Program}
theorem CF.turn (h:CF w0 FA UA N w a E blk FS US) (hF:FS .hand=[]) (hU:US .hand=[]) {r:Root} (hm:r.mem=true) {cells cells':List TV} (hc:E.boxes r=some cells) (k:cells'.length=cells.length) {w':World} (hb:Kq w w' (FS r))
  (f:∃cur T F,w'.heap[blk r]?=some (.cells cur T (0,0))/\By w' cells' cur.toList F (US r)/\FS r=blk r::F):
  ∃FS' US',CF w0 FA UA N w' a ((E.setRoot r cells').bump r) blk FS' US'/\FS' .hand=[]/\US' .hand=[]:=by
 have g:r≠ .hand:=by rintro rfl;cases hm
 have d:∀j,((E.setRoot r cells').bump r).place r [] j=cells'[j]? :=by
  intro j
  cases r with
  |slot n=>cases hm
  |hand=>cases hm
  |box n=>simp [St.place,St.bump,St.setRoot,St.root,Cc,BO]
  |ext n=>simp [St.place,St.bump,St.setRoot,St.root,Cc,BO]
 have c:∀j,E.place r [] j=cells[j]? :=by
  intro j
  cases r with
  |slot n=>cases hm
  |hand=>cases hm
  |box n=>simp [St.place,St.root,hc,BO]
  |ext n=>simp [St.place,St.root,hc,BO]
 let E1:St:=(E.setRoot r cells').bump r
 have ev:∀s,s≠r->E1.ver s=E.ver s:=by
  intro s hs;cases r<;>simp [E1,St.bump,St.setRoot,Cc,hs]
 have evr:E1.ver r=E.ver r+1:=by cases r<;>simp [E1,St.bump,St.setRoot,Cc]
 have eg:∀s,E1.gen s=E.gen s:=by intro s;cases r<;>rfl
 have er:∀s,s≠r->E1.root s=E.root s:=by
  intro s hs
  cases r with
  |slot n=>cases hm
  |hand=>cases hm
  |box n=>cases s<;>simp [E1,St.bump,St.setRoot,St.root,Cc,hs]
  |ext n=>cases s<;>simp [E1,St.bump,St.setRoot,St.root,Cc,hs]
 have es:∀n,E1.slots n=E.slots n:=by
  intro n
  cases r with
  |slot n=>cases hm
  |hand=>cases hm
  |box n=>rfl
  |ext n=>rfl
 have eb:∀s,E1.boxes s=if s=r then some cells' else E.boxes s:=by
  intro s
  cases r with
  |slot n=>cases hm
  |hand=>cases hm
  |box n=>rfl
  |ext n=>rfl
 have i:∀s,Cn w w' a a E E1 blk blk s:=by
  intro s;by_cases hs:s=r
  ·subst hs;refine⟨.inl (by rw [evr];omega),.inr ⟨eg s,fun j ad hv hp=>?_⟩⟩;refine⟨(by cases s<;>first|exact hv|(cases hm)),?_⟩;rw [c]at hp;rw [show E1.place s [] j=cells'[j]? from d j];have hj:j<cells.length:=by
    rcases D8 j cells.length with q|q
    ·exact q
    ·rw [Dl q]at hp;cases hp
   rw [Ac (by omega)];rfl
  ·by_cases hh:s= .hand
   ·subst hh;exact Gy (ev _ hs) (eg _) (by simp [St.root,h.nohand])
   ·exact Ed h (ev s hs) (eg s) (er s hs) (fun _ _=>rfl) (fun _=>rfl)
     (fun b hx=>hb.keep b (h.inF s b hx).2 (h.dis s r hs b hx)) (fun b hx=>hb.keep b (h.inU s b hx).2 (fun e=>h.disU r s b e hx))
 have k7:=h.two (w':=w') (a':=a) (E':=E1) (blk':=blk) (r1:=r) (r2:= .hand) (L1:=FS r) (L2:=[]) (V1:=US r) (V2:=[]) g
  (by simpa using h.nodup r)
  (fun b hx=>⟨.inl (by simpa using hx),Bl (h.inF r b (by simpa using hx)).2 hb.size⟩)
  (fun b hx=> .inl ⟨r,by simpa using hx⟩)
  hb.size hb.os hb.tape hb.output (fun b hx q _=>hb.keep b hx q) i (fun n _ _=>⟨es n,rfl⟩) (fun s _ hs _=>⟨by rw [eb,A5 hs],rfl⟩)
  (by
   obtain⟨cur,T,F,g1,g2,g3⟩:=f;have:Gl w' a E1 blk r (FS r) (US r):=by
    have e1:=eb r;rw [Az rfl]at e1
    cases r with
    |slot n=>cases hm
    |hand=>cases hm
    |box n=>exact .inr ⟨cells',cur,T,F,e1,g1,g2,g3⟩
    |ext n=>exact .inr ⟨cells',cur,T,F,e1,g1,g2,g3⟩
   exact this)
  trivial (by rw [eb,A5 (EC g)];exact h.nohand) h.len h.nodef (hfz:=by
   intro n hn;have e:((E.setRoot r cells').bump r).fz=E.fz:=by rw [Ox,Hs]
   exact h.frz n (e▸hn)) (hamb:=by show((E.setRoot r cells').bump r).amb=E.amb;rw [Mw,F7])
 exact⟨_,_,k7,BQ _ _ _,BQ _ _ _⟩
theorem jL (h:CF w0 FA UA N w a E blk FS US) (hF:FS .hand=[]) (hU:US .hand=[]) {d:Nat} (hd:d<N) (v:Value):∃FS' US',CF w0 FA UA N w (a.put (some d) v) (E.put (some d) (.one .junk)) blk FS' US'/\FS' .hand=[]/\US' .hand=[]:=
 h.land (w':=w) (F:=[]) (U:=[]) hd (by simp [EB,CN,TV.isJunk]) Da (by simp) (by simp) (AB _) rfl rfl rfl (fun _ _ _=>rfl)
theorem N4 {γ:Type} {enc:γ->List TV} (a:∀x,(enc x).all TV.flat=true):∀l:List γ,(Ah enc l).all TV.flat=true
 |[]=>rfl
 |x::l=>by
  have:Ah enc (x::l)=enc x++Ah enc l:=by simp [Ah]
  rw [this,List.all_append,a,N4 a l];rfl
end
section
variable {N:Nat} {E:St} {P:Program} {ops:Array Oper} {rest:List Oper} {Q:Exit->St->Prop} {γ:Type}
theorem QG {o:Oper} (h:o.guard=none):Bp P ops E o=some true:=by unfold Bp;rw [h]
theorem ABH {α β:Type} {l:List Oper} {x:Option α} {k:α->Option β} {rr:β} (h:x.bind k=some rr) (hk:∀v,x=some v->k v=some rr->A7 P N ops l E Q):A7 P N ops l E Q:=by
 obtain⟨v,hv,h⟩:=Au.1 h;exact hk v hv h
theorem A7.srt {enc:γ->List TV} {sz e t:Nat} {f lfn:FuncId} {l l':List γ} {r:Root} {o1 o2 o3:Oper} {d1 d2 d3 x p:Nat} {ver:Nat} {tys:Array TypeId} (hs:e8 P f t e sz enc lfn l l')
  (hk:A7 P N ops rest (((((E.put (some d1) (.one .junk)).put (some d2) (.one .junk)).setRoot r [.sl true e sz (Ah enc l')]).bump r).put (some d3) (.tup [])) Q)
  (h:∀x,(enc x).length=sz) (b:∀x,(enc x).all TV.flat=true)
  (hx:E.slots x= .one (.view r ver [] 0):=by rfl) (i:E.ver r=ver:=by rfl) (hp:E.ptr? (.tmp p)=some (r,[],0):=by rfl) (hc:E.boxes r=some [.sl true e sz (Ah enc l)]:=by rfl) (hm:r.mem=true:=by rfl)
  (h1:o1.op= .makeInterface t (.tmp x):=by rfl) (h2:o2.op= .makeFunc (.func lfn) #[] #[.tmp p]:=by rfl) (h3:o3.op= .call {callee:= .value (.func f),args:= #[.tmp d1,.tmp d2],argTypes:=tys}:=by rfl)
  (k1:o1.dst=some d1:=by rfl) (k2:o2.dst=some d2:=by rfl) (k3:o3.dst=some d3:=by rfl) (g1:o1.guard=none:=by rfl) (g2:o2.guard=none:=by rfl) (g3:o3.guard=none:=by rfl)
  (m:Nat.blt d1 N=true:=by rfl) (o:Nat.blt d2 N=true:=by rfl) (u:Nat.blt d3 N=true:=by rfl) (y:Nat.beq d1 d2=false:=by rfl) (j:Nat.beq p d1=false:=by rfl) (z:Nat.blt 0 sz=true:=by rfl)
  (ht:P.underlying t=some (.slice e):=by rfl) (hf:j8 P f):A7 P N ops (o1::o2::o3::rest) E Q:=by
 have hN1':d1<N:=by simpa [B3]using m
 have hN2':d2<N:=by simpa [B3]using o
 have hN3':d3<N:=by simpa [B3]using u
 have hne':d1≠d2:=by intro e;subst e;simp at y
 have hne2':p≠d1:=by intro e;subst e;simp at j
 have hsz':0<sz:=by simpa [B3]using z
 intro w0 FA UA w a blk FS US hr hF hU;have k:∃v T F,w.heap[blk r]?=some (.cells #[v] T (0,0))/\C9 w (.sl true e sz (Ah enc l)) v F (US r)/\FS r=blk r::F:=by
  rcases hr.box r hm with⟨q1,_⟩|⟨cs,cur,T,F,q1,q2,q3,q4⟩
  ·rw [hc]at q1;cases q1
  ·rw [hc]at q1
   injection q1 with q1
   subst q1;simp only [By]at q3;obtain⟨v,vs',F1,F2,U1,U2,e1,rfl,e3,q5,rfl,rfl,rfl⟩:=q3;have:cur= #[v]:=by apply lJ;simpa using e1
   subst this;rw [Aw]at q4;rw [e3,Aw];exact⟨v,T,F1,q2,q5,q4⟩
 obtain⟨v,T,F,b1,b2,b3⟩:=k;simp only [C9]at b2;obtain⟨n,vs,F',b4,b5,rfl⟩:=b2;have h0:=iY b5 (N4 b l);obtain⟨rfl,a1⟩:=PB b5 (N4 b l);subst h0;have h4:n=l.length:=by
  have q:=b4.1;rw [B9,Ff h l]at q;exact(Nat.eq_of_mul_eq_mul_right hsz' q).symm
 subst h4;rw [Aw]at b3;have h5:blk r∉C5 v:=by
  have:=hr.nodup r;rw [b3]at this;exact(DU.1 this).1
 have evx:a.eval (.tmp x)=v:=by
  have q:=hr.slot x;rw [hx]at q;simp only [EB,CN]at q;obtain⟨⟨_,_,_,q4⟩,_⟩:=q;obtain⟨q5,_⟩:=q4 i
  cases r with
  |slot n=>cases hm
  |hand=>cases hm
  |box n=>simpa [pv,BV,Addr.add,World.cell?,b1]using q5.symm
  |ext n=>simpa [pv,BV,Addr.add,World.cell?,b1]using q5.symm
 have evp:a.eval (.tmp p)= .pointer (some ⟨blk r,0,none⟩):=by
  obtain⟨_,ad,q1,q2⟩:=Lz hr hp;rw [q2]
  cases r with
  |slot n=>cases hm
  |hand=>cases hm
  |box n=>simp [pa,Addr.add]at q1;rw [<-q1]
  |ext n=>simp [pa,Addr.add]at q1;rw [<-q1]
 obtain⟨FS1,US1,r1,r2,r3⟩:=jL hr hF hU hN1' (.iface t v);have e1:(execOp a.eval o1).run P w= .ok (.value (.iface t v)) w:=by
  simp [execOp,h1,Instr.makeInterface,run_underlying ht,evx]
 simp only [wpList,Cx hr (QG (P:=P) (ops:=ops) g1),Cg];refine .inl ?_
 try unfold Oper.wp
 rw [e1,Oper.upon_value,k1];have evp1:(a.put (some d1) (.iface t v)).eval (.tmp p)= .pointer (some ⟨blk r,0,none⟩):=by rw [D7 hne2',evp]
 obtain⟨FS2,US2,s1,s2,s3⟩:=jL r1 r2 r3 hN2' (.func (.func lfn) #[] #[.pointer (some ⟨blk r,0,none⟩)]);have e2:(execOp (a.put (some d1) (.iface t v)).eval o2).run P w= .ok (.value (.func (.func lfn) #[] #[.pointer (some ⟨blk r,0,none⟩)])) w:=by
  simp [execOp,h2,Instr.makeFunc,evp1]
 simp only [wpList,Cx r1 (QG (P:=P) (ops:=ops) g2),Cg];refine .inl ?_
 try unfold Oper.wp
 rw [e2,Oper.upon_value,k2];simp only [wpList,Cx s1 (QG (P:=P) (ops:=ops) g3),Cg];refine .inl ?_;have h6:d1<a.tmps.size:=Bl hN1' hr.len;have h7:d2<(a.put (some d1) (.iface t v)).tmps.size:=Bl hN2' r1.len
 try unfold Oper.wp
 rw [KH h3 hf];have ea: #[Operand.tmp d1,.tmp d2].map ((a.put (some d1) (.iface t v)).put (some d2) (.func (.func lfn) #[] #[.pointer (some ⟨blk r,0,none⟩)])).eval= #[.iface t v,.func (.func lfn) #[] #[.pointer (some ⟨blk r,0,none⟩)]]:=by
  simp [HA h7,D7 hne',HA h6]
 rw [ea];simp only [Oper.upon];refine Calls.mono (hs w (blk r) v T b1 b4 h5) ?_;rintro ee w' ⟨rfl,h8,h9,a0⟩;have c:((E.put (some d1) (.one .junk)).put (some d2) (.one .junk)).boxes r=some [.sl true e sz (Ah enc l)]:=hc;have g:∃F2,FS2 r=blk r::F2/\F2=C5 v/\US2 r=[]:=by
  rcases s1.box r hm with⟨q1,_⟩|⟨cs,cur,T2,F2,q1,q2,q3,q4⟩
  ·rw [c]at q1;cases q1
  ·rw [c]at q1
   injection q1 with q1
   subst q1;rw [b1]at q2
   injection q2 with q2
   injection q2 with q2
   subst q2;simp only [By]at q3;obtain⟨v2,vs',F3,F4,U1,U2,e1,rfl,e3,q5,rfl,rfl,rfl⟩:=q3;simp at e1;subst e1;simp only [C9]at q5;obtain⟨n,vs,F',c4,c5,rfl⟩:=q5;obtain⟨rfl,rfl⟩:=PB c5 (N4 b l);rw [Aw]at e3;exact⟨_,q4,by simp,e3⟩
 obtain⟨F2,f1,rfl,f3⟩:=g;obtain⟨FS3,US3,t1,t2,t3⟩:=s1.turn s2 s3 hm c (cells':=[.sl true e sz (Ah enc l')]) rfl (w':=w') (by rw [f1];exact h8)
  ⟨#[v],T,C5 v,h9,by
   rw [f3];simp only [By];refine⟨v,[],C5 v,[],[],[],rfl,by simp,rfl,?_,rfl,rfl,rfl⟩;simp only [C9]
   exact⟨l'.length,_,[],a0,fS (N4 b l'),by simp⟩,f1⟩
 obtain⟨FS4,US4,u1,u2,u3⟩:=t1.land (w':=w') (d:=d3) (s:= .tup []) (v:= .tuple #[]) (F:=[]) (U:=[]) hN3' (by simp [EB,NI]) Da (by simp) (by simp) (AB _) rfl rfl rfl (fun _ _ _=>rfl);rw [k3];exact hk _ _ _ _ _ _ _ _ u1 u2 u3
end
def AAd (b:Nat) (v:Value) (T:TypeId) (e sz n:Nat) (xs:List Value):Ig where
 B:=b::C5 v
 I:=fun w=>w.heap[b]?=some (.cells #[v] T (0,0))/\w.ownsRow 0 e sz v n xs
 st:=fun w w' h hk=>⟨by rw [hk b (by simp)];exact h.1,h.2.1,by
  rcases h.2.2 with q|⟨g,cap,cur,rfl,q1,q2,q3⟩
  ·exact .inl q
  ·exact .inr ⟨g,cap,cur,rfl,q1,by rw [hk g (by simp [C5,Value.ownBlock])];exact q2,q3⟩⟩
theorem vK {γ:Type} {n b g cap:Nat} {e T:TypeId} {sz:Nat} {enc:γ->List TV} (a:∀x,(enc x).length=sz) {l:List γ} {i:Int} {x:γ} {k:Nat} {t:TV} {ad:Addr} (hi:gi l i=some x) (hk:(enc x)[k]?=some t) (hb:b≠g) (d:ad=⟨g,i.toNat*sz+k,none⟩):(MW n b g cap e T sz enc l).rd ad=some t.val:=by
 subst d;obtain⟨i0,i1⟩:=ML hi;have lm:=(Aj.1 i1).1;have c:=(Aj.1 hk).1;rw [a]at c;have f:(i.toNat+1)*sz<=l.length*sz:=Cm _ lm;rw [DT]at f;have e1:(Ah enc l)[i.toNat*sz+k]?=(enc x)[k]? :=by
  have h2:(Ah enc l)[i.toNat*sz+k]?=((Ah enc l).drop (i.toNat*sz))[k]? :=by rw [BY]
  rw [h2,LI a l i.toNat,Bs lm,Wy];have e4:l[i.toNat]=x:=by rw [Ac lm]at i1;injection i1
  rw [e4,AT (by rw [a];exact c)]
 simp only [MW,L4,Cs,Jz];rw [A5 (fun e=>hb e.symm),Cg,Az (by omega),Bh,e1,hk];rfl
theorem vL {γ:Type} {n b g cap:Nat} {e T:TypeId} {sz:Nat} {enc:γ->List TV} {l:List γ}:(MW n b g cap e T sz enc l).rd ⟨b,0,none⟩=some (.slice (some ⟨g,0,none⟩) n cap):=by
 simp [MW]
theorem AA2 {g m:Nat}:((⟨g,0,none⟩:Addr).add m)=⟨g,m,none⟩:=by
 unfold Addr.add;split
 ·rename_i h;subst h;rfl
 ·simp
theorem AAY {α:Type} {l:List α} {i:Int} {x:α} (h:gi l i=some x):0<=i/\i<l.length:=by
 obtain⟨i0,i1⟩:=ML h;have lm:=(Aj.1 i1).1;exact⟨i0,by omega⟩
end Go.TI
namespace Go.TI
open Go Go.RowKit
def s8 (t t':TV):Prop:=t=t'\/∃e sz cells cells',t= .sl true e sz cells/\BH cells=cells'/\t'= .sl false e sz cells'
def qU:List TV->List TV->Prop
 |[],ts'=>ts'=[]
 |t::ts,ts'=>∃x xs,ts'=x::xs/\s8 t x/\qU ts xs
mutual
def OF:SV->SV->Prop
 | .one t,s'=>∃t',s'= .one t'/\s8 t t'
 | .agg cs,s'=>∃cs',s'= .agg cs'/\qU cs cs'
 | .tup ss,s'=>∃ss',s'= .tup ss'/\Lo ss ss'
def Lo:List SV->List SV->Prop
 |[],ss'=>ss'=[]
 |s::ss,ss'=>∃x xs,ss'=x::xs/\OF s x/\Lo ss xs
end
theorem AAU {t:TV}:s8 t t:= .inl rfl
theorem wM:∀{ts:List TV},qU ts ts
 |[]=>rfl
 |t::ts=>⟨t,ts,rfl,AAU,wM⟩
theorem qU.c {t x:TV} {ts xs:List TV} (h:s8 t x) (k:qU ts xs):qU (t::ts) (x::xs):=⟨x,xs,rfl,h,k⟩
theorem s8.s {e sz:Nat} {cells cells':List TV} (h:BH cells=cells'):s8 (.sl true e sz cells) (.sl false e sz cells'):= .inr ⟨e,sz,cells,cells',rfl,h,rfl⟩
mutual
theorem fC:∀{s:SV},OF s s
 | .one t=>⟨t,rfl,AAU⟩
 | .agg cs=>⟨cs,rfl,wM⟩
 | .tup ss=>⟨ss,rfl,fB⟩
theorem fB:∀{ss:List SV},Lo ss ss
 |[]=>rfl
 |s::ss=>⟨s,ss,rfl,fC,fB⟩
end
theorem ABz {cs cs':List TV} (h:qU cs cs'):OF (.agg cs) (.agg cs'):=⟨cs',rfl,h⟩
theorem OF.o {t t':TV} (h:s8 t t'):OF (.one t) (.one t'):=⟨t',rfl,h⟩
theorem ABy {ss ss':List SV} (h:Lo ss ss'):OF (.tup ss) (.tup ss'):=⟨ss',rfl,h⟩
theorem Lo.c {s x:SV} {ss xs:List SV} (h:OF s x) (k:Lo ss xs):Lo (s::ss) (x::xs):=⟨x,xs,rfl,h,k⟩
def Ft (F U F' U':List Nat):Prop:=F'.Sublist F/\∀b∈U',b∈U\/(b∈F/\b∉F')
theorem LF {F1 F2 U1 U2 F1' F2' U1' U2':List Nat} (hd:(F1++F2).Nodup) (h:Ft F1 U1 F1' U1') (k:Ft F2 U2 F2' U2'):Ft (F1++F2) (U1++U2) (F1'++F2') (U1'++U2'):=by
 obtain⟨_,_,hd⟩:=Bn.1 hd;refine⟨h.1.append k.1,fun b hb=>?_⟩
 rcases Al.1 hb with hb|hb
 ·rcases h.2 b hb with q|⟨q1,q2⟩
  ·exact .inl (by simp [q])
  ·refine .inr ⟨by simp [q1],fun hc=>?_⟩
   rcases Al.1 hc with hc|hc
   ·exact q2 hc
   ·exact hd b q1 b (k.1.subset hc) rfl
 ·rcases k.2 b hb with q|⟨q1,q2⟩
  ·exact .inl (by simp [q])
  ·refine .inr ⟨by simp [q1],fun hc=>?_⟩
   rcases Al.1 hc with hc|hc
   ·exact hd b (h.1.subset hc) b q1 rfl
   ·exact q2 hc
theorem Ft.refl {F U:List Nat}:Ft F U F U:=⟨List.Sublist.refl _,fun b hb=> .inl hb⟩
theorem nP {w:World} {t t':TV} {v:Value} {F U:List Nat} (h:C9 w t v F U) (k:s8 t t'):∃F' U',C9 w t' v F' U'/\Ft F U F' U':=by
 rcases k with rfl|⟨e,sz,cells,cells',rfl,rfl,rfl⟩
 ·exact⟨F,U,h,Ft.refl⟩
 ·obtain⟨U',h1,h2⟩:=PC h;exact⟨[],U',h1,List.nil_sublist _,fun b hb=>(h2 b hb).elim (fun q=> .inr ⟨q,by simp⟩) .inl⟩
theorem qG {w:World}:∀{ts ts':List TV} {vs:List Value} {F U:List Nat},By w ts vs F U->qU ts ts'->F.Nodup->∃F' U',By w ts' vs F' U'/\Ft F U F' U'
 |[],ts',vs,F,U,h,k,_=>by
  simp only [qU]at k;subst k;exact⟨F,U,h,Ft.refl⟩
 |t::ts,ts',vs,F,U,h,k,hn=>by
  simp only [By]at h;obtain⟨v,vs',F1,F2,U1,U2,rfl,rfl,rfl,h1,h2⟩:=h;obtain⟨x,xs,rfl,k1,k2⟩:=k;obtain⟨F1',U1',a1,a2⟩:=nP h1 k1;obtain⟨F2',U2',b1,b2⟩:=qG h2 k2 (Bn.1 hn).2.1;exact⟨_,_,by simp only [By];exact⟨v,vs',F1',F2',U1',U2',rfl,rfl,rfl,a1,b1⟩,LF hn a2 b2⟩
mutual
theorem uS {w:World}:∀{s s':SV} {v:Value} {F U:List Nat},PX w s v F U->OF s s'->F.Nodup->∃F' U',PX w s' v F' U'/\Ft F U F' U'
 | .one t,s',v,F,U,h,k,_=>by
  simp only [PX]at h;obtain⟨t',rfl,k⟩:=k;obtain⟨F',U',h1,h2⟩:=nP h.1 k;exact⟨F',U',by simp only [PX];exact⟨h1,h.2⟩,h2⟩
 | .agg cs,s',v,F,U,h,k,hn=>by
  simp only [PX]at h;obtain⟨cs',rfl,k⟩:=k;obtain⟨vs,rfl,h⟩:=h;obtain⟨F',U',h1,h2⟩:=qG h k hn;exact⟨F',U',by simp only [PX];exact⟨vs,rfl,h1⟩,h2⟩
 | .tup ss,s',v,F,U,h,k,hn=>by
  simp only [PX]at h;obtain⟨ss',rfl,k⟩:=k;obtain⟨vs,rfl,h⟩:=h;obtain⟨F',U',h1,h2⟩:=pW h k hn;exact⟨F',U',by simp only [PX];exact⟨vs,rfl,h1⟩,h2⟩
theorem pW {w:World}:∀{ss ss':List SV} {vs:List Value} {F U:List Nat},LM w ss vs F U->Lo ss ss'->F.Nodup->∃F' U',LM w ss' vs F' U'/\Ft F U F' U'
 |[],ss',vs,F,U,h,k,_=>by
  simp only [Lo]at k;subst k;exact⟨F,U,h,Ft.refl⟩
 |s::ss,ss',vs,F,U,h,k,hn=>by
  simp only [LM]at h;obtain⟨v,vs',F1,F2,U1,U2,rfl,rfl,rfl,h1,h2⟩:=h;obtain⟨x,xs,rfl,k1,k2⟩:=k;obtain⟨a,b,_⟩:=Bn.1 hn;obtain⟨F1',U1',a1,a2⟩:=uS h1 k1 a;obtain⟨F2',U2',b1,b2⟩:=pW h2 k2 b;exact⟨_,_,by simp only [LM];exact⟨v,vs',F1',F2',U1',U2',rfl,rfl,rfl,a1,b1⟩,LF hn a2 b2⟩
end
theorem Yy.le {w w':World} {FA UA:List Nat} {res res':SV} {fin fin':List AV} {vs:List Value} {v:Value} {F U G V F' U' G' V':List Nat} (h:Yy w w' FA UA res fin vs v F U G V) (h1:PX w' res' v F' U') (h2:Ir w' fin' vs G' V') (h3:Ft (F++G) (U++V) (F'++G') (U'++V')):Yy w w' FA UA res' fin' vs v F' U' G' V':=by
 exact{
  res:=h1
  fin:=h2
  nodup:=h3.1.nodup h.nodup
  dis:=fun b hb hb'=>by
   rcases h3.2 b hb' with q|⟨q1,q2⟩
   ·exact h.dis b (h3.1.subset hb) q
   ·exact q2 hb
  inF:=fun b hb=>h.inF b (h3.1.subset hb)
  inU:=fun b hb=>by
   rcases h3.2 b hb with q|⟨q1,q2⟩
   ·exact h.inU b q
   ·obtain⟨q3,q4⟩:=h.inF b q1;exact⟨.inr q3,q4⟩
  os:=h.os
  tape:=h.tape
  output:=h.output
  size:=h.size
  keep:=h.keep}
theorem tK {P:Program} {f:FuncId} {fn:Func} {c:Code} {as:List AV} {res:SV} (hf:P.funcs[f]?=some fn) (hb:fn.body=some c)
  (h:Wp P fn.ntmps c (DV as) fun e E=>(e= .normal\/e= .ret)/\∃ss E',Gb P E fn.results.toList=some (ss,E')/\OF (He ss) res):
  Ba P f as res (List.replicate as.length .gone):=by
 intro w vs FA UA ha j i k;obtain⟨blk,FS,US,hr,hF,hU⟩:=NB (N:=fn.ntmps) ha j i k (A:=Ig.none) (fz:=none) trivial (fun b hb=>by cases hb);refine calls_of_wp hf hb (wp_mono (h _ _ _ _ _ _ _ _ hr hF hU) ?_);rintro e a w' ⟨E,blk',FS',US',⟨he,ss,E',h1,l⟩,h2,h3,h4⟩;obtain⟨us,FS2,US2,F,U,k1,k2,k3,k4,k5⟩:=IR h2 h1;rw [h3,A6]at k4;rw [h4,A6]at k5;have g:∀(n:Nat) (vs:List Value),vs.length=n->Ir w' (List.replicate n .gone) vs [] []:=by
  intro n
  induction n with
  |zero=>intro vs hv;simp at hv;subst hv;exact⟨rfl,rfl,rfl⟩
  |succ n ih=>
   intro vs hv
   cases vs with
   |nil=>simp at hv
   |cons v vs=>exact⟨v,vs,[],[],[],[],rfl,rfl,rfl,⟨rfl,rfl⟩,ih vs (by simpa using hv)⟩
 have m:vs.length=as.length:=by
  obtain⟨_,_,_,_,h5,_⟩:=N9 ha;exact h5
 have o:F.Nodup:=by rw [<-k4];exact k3.nodup .hand
 have d:a.defers=[]/\∃v,(results fn a.tmps).run P w'= .ok v w'/\∃v' F U G V,Ending.returned v= .returned v'/\Yy w w' FA UA res (List.replicate as.length .gone) vs v' F U G V:=by
  have hL:Yy w w' FA UA (He ss) (List.replicate as.length .gone) vs _ F U [] []:={
   res:=MH k2
   fin:=g _ _ m
   nodup:=by simpa [<-k4]using k3.nodup .hand
   dis:=by
    intro b hb hb';simp only [Aw]at hb hb';rw [<-k4]at hb;rw [<-k5]at hb';exact k3.disU .hand .hand b hb hb'
   inF:=by
    intro b hb;simp only [Aw]at hb;rw [<-k4]at hb;exact k3.inF .hand b hb
   inU:=by
    intro b hb;simp only [Aw]at hb;rw [<-k5]at hb;exact k3.inU .hand b hb
   os:=k3.os
   tape:=k3.tape
   output:=k3.output
   size:=k3.size
   keep:=fun b hb hF=>k3.keep b hb hF (fun e=>by cases e)}
  obtain⟨F',U',q1,q2⟩:=uS hL.res l o;exact⟨h2.nodef,_,KG k1,_,F',U',[],[],rfl,hL.le q1 hL.fin (by simpa using q2)⟩
 rcases he with rfl|rfl
 ·exact d
 ·exact d
section
variable {N:Nat} {E:St} {P:Program} {ops:Array Oper} {oo:Oper} {rest:List Oper} {Q:Exit->St->Prop} {α β:Type} {rr:β}
end
end Go.TI
namespace Go.TI
open Go Go.RowKit
def oA (ops:Array Oper) (i:Nat):Oper:=match ops[i]? with
 |some o=>o
 | none => { dst := none, op := .load 0 (.tmp 0), type := 0, pos := "", after := #[], guard := none }
theorem HW {ops:Array Oper} {i:Nat} (h:Nat.blt i ops.size=true):ops[i]?=some (oA ops i):=by
 have:i<ops.size:=by simpa [B3]using h
 unfold oA;rw [Array.getElem?_eq_getElem this]
theorem PS {ops:Array Oper} {i:Nat} (h:Nat.blt i ops.size=true):ops.toList.drop i=oA ops i::ops.toList.drop (i+1):=by
 have hi:i<ops.toList.length:=by simpa [B3]using h
 have h1:=HW h;rw [<-Array.getElem?_toList,Ac hi]at h1
 injection h1 with h1
 rw [Bs hi,h1]
def XY (P:Program) (ops:Array Oper) (E:St) (i:Nat):Bool:=Nat.blt i ops.size&&(match Bp P ops E (oA ops i)with|some b=>b|none=>false)
theorem I5 {P:Program} {ops:Array Oper} {E:St} {i:Nat} (h:XY P ops E i=true):Nat.blt i ops.size=true/\Bp P ops E (oA ops i)=some true:=by
 simp only [XY,Aq]at h;refine⟨h.1,?_⟩;have h2:=h.2;split at h2
 ·rename_i b hb;rw [hb,h2]
 ·cases h2
def HC (N:Nat) (o:Oper):Bool:=match o.dst with
 |some d=>Nat.blt d N
 |none=>false
theorem Fg {N:Nat} {o:Oper} (h:HC N o=true):∃d,o.dst=some d/\Nat.blt d N=true/\d<N:=by
 unfold HC at h;split at h
 ·rename_i d hd;exact⟨d,hd,h,by simpa [B3]using h⟩
 ·cases h
def uV (P:Program) (N:Nat) (ops:Array Oper) (mv:Bool) (E:St) (i:Nat):Option St:=bif Nat.blt i ops.size then
  match Bp P ops E (oA ops i)with
  |some true=>BZ P N mv E (oA ops i)
  |some false=>bif HC N (oA ops i)then some (E.put (oA ops i).dst (.tup []))else none
  |none=>none
 else none
def sD (P:Program) (N:Nat) (ops:Array Oper):Nat->Nat->Nat->St->Option St
 |0,_,_,E=>some E
 |k+1,m,i,E=>match uV P N ops (Nat.beq (m %2) 1) E i with
  |some E'=>sD P N ops k (m/2) (i+1) E'
  |none=>none
def ACz (P:Program) (N:Nat) (ops:Array Oper) (k m i:Nat) (E:St):St:=(sD P N ops k m i E).getD E
theorem getD_some {α:Type _} {x:Option α} {a:α} (h:x.isSome=true):x=some (x.getD a):=by
 cases x with
 |none=>cases h
 |some y=>rfl
def RW (P:Program) (N:Nat) (ops:Array Oper) (i:Nat) (E:St) (Q:Exit->St->Prop):Prop:=A7 P N ops (ops.toList.drop i) E Q
def SW (P:Program) (N:Nat) (ops:Array Oper) (m i:Nat) (E:St) (K:St->Prop):Prop:=Jy P N ops ((ops.toList.take m).drop i) E K
section
variable {P:Program} {N:Nat} {E:St} {ops:Array Oper} {i m:Nat} {Q:Exit->St->Prop} {K:St->Prop} {α β:Type} {r:β}
theorem bd {x:Option α} {k:α->Option β} {G:Prop} (h:x.bind k=some r) (hk:∀a,x=some a->k a=some r->G):G:=by
 obtain⟨a,ha,h⟩:=Au.1 h;exact hk a ha h
theorem RW.nil (h:Q .normal E) (hi:Nat.ble ops.size i=true:=by kernel_rfl):RW P N ops i E Q:=by
 have:ops.size<=i:=by simpa [Qb]using hi
 unfold RW;rw [CA (by simpa using this)];exact A7.nil h
theorem CW {mv:Bool} {E':St} (hs:BZ P N mv E (oA ops i)=some E') (h:RW P N ops (i+1) E' Q) (hk:XY P ops E i=true:=by kernel_rfl):RW P N ops i E Q:=by
 obtain⟨h1,h2⟩:=I5 hk;unfold RW;rw [PS h1];exact A7.op mv h2 hs h
theorem RW.st {E':St} {mv:Bool} (hs:uV P N ops mv E i=some E') (h:RW P N ops (i+1) E' Q):RW P N ops i E Q:=by
 unfold uV at hs
 cases hi:Nat.blt i ops.size with
 |false=>rw [hi]at hs;cases hs
 |true=>
  rw [hi]at hs;simp only [Ag]at hs;unfold RW;rw [PS hi];split at hs
  ·rename_i hg;exact A7.op mv hg hs h
  ·rename_i hg
   cases hd:HC N (oA ops i)with
   |false=>rw [hd]at hs;cases hs
   |true=>
    rw [hd]at hs;simp only [Ag]at hs
    injection hs with hs
    subst hs;obtain⟨d,h1,_,h2⟩:=Fg hd;rw [h1]at h;exact lD h1 h2 hg h
  ·cases hs
theorem RW.run:∀{k m i:Nat} {E E':St},sD P N ops k m i E=some E'->RW P N ops (i+k) E' Q->RW P N ops i E Q
 |0,m,i,E,E',h,hw=>by
  simp only [sD]at h
  injection h with h
  subst h;exact hw
 |k+1,m,i,E,E',h,hw=>by
  simp only [sD]at h;split at h
  ·rename_i E1 h1;exact RW.st h1 (RW.run h (by rw [Hi,TX 1 k];exact hw))
  ·cases h
theorem Ab (k m:Nat) (h:RW P N ops (i+k) (ACz P N ops k m i E) Q) (hk:(sD P N ops k m i E).isSome=true:=by kernel_rfl):RW P N ops i E Q:=RW.run (getD_some hk) h
def qok (P:Program) (N:Nat) (ops:Array Oper) (i:Nat) (E:St):Bool:=XY P ops E i&&pk (oA ops i)&&HC N (oA ops i)
theorem nS (h:qok P N ops i E=true):XY P ops E i=true/\pk (oA ops i)=true/\∃d,(oA ops i).dst=some d/\Nat.blt d N=true/\d<N:=by
 simp only [qok,Aq]at h;exact⟨h.1.1,h.1.2,Fg h.2⟩
theorem RW.q {s:SV} (hp:Bj P E (oA ops i)=some s) (h:RW P N ops (i+1) (E.put (oA ops i).dst s) Q) (hk:qok P N ops i E=true:=by kernel_rfl):RW P N ops i E Q:=by
 obtain⟨h1,h2,d,h3,h4,_⟩:=nS hk;rw [h3]at h;exact CW (M8 hp h3 h4 h2) h h1
theorem AQ {tx ty:Option β} {b:Bool} (t:Nat) (h:(bif b then tx else ty)=some r) (ht:tx=some r->RW P N ops i (E.rs t true) Q) (hf:ty=some r->RW P N ops i (E.rs t false) Q) (hc:E.slots t=B b:=by kernel_rfl):RW P N ops i E Q:=QN h t ht hf hc
theorem Or (h:Nat.blt i ops.size=true) (hm:Nat.blt i m=true):(ops.toList.take m).drop i=oA ops i::(ops.toList.take m).drop (i+1):=by
 have hi:i<ops.size:=by simpa [B3]using h
 have a:i<m:=by simpa [B3]using hm
 have hl:i<(ops.toList.take m).length:=by simp;omega
 have h1:=HW h;rw [Bs hl];congr 1;rw [IZ];rw [<-Array.getElem?_toList,Ac (by simpa using hi)]at h1;injection h1
theorem SW.nil (h:K E) (hi:(Nat.ble ops.size i||Nat.ble m i)=true:=by kernel_rfl):SW P N ops m i E K:=by
 unfold SW
 rw [CA (by
  rw [Db]at hi
  rcases hi with hi|hi
  ·have:ops.size<=i:=by simpa [Qb]using hi
   simp;omega
  ·have:m<=i:=by simpa [Qb]using hi
   simp;omega)]
 exact Jy.nil h
def mB (P:Program) (N:Nat) (ops:Array Oper) (m:Nat) (E:St) (i:Nat):Option St:=bif Nat.blt i ops.size&&Nat.blt i m&&HC N (oA ops i)then
  match Bp P ops E (oA ops i)with
  |some true=>match Ja P E (oA ops i)with
   |some s=>some (E.put (oA ops i).dst s)
   |none=>none
  |some false=>some (E.put (oA ops i).dst (.tup []))
  |none=>none
 else none
def YC (P:Program) (N:Nat) (ops:Array Oper) (m:Nat):Nat->Nat->St->Option St
 |0,_,E=>some E
 |k+1,i,E=>match mB P N ops m E i with
  |some E'=>YC P N ops m k (i+1) E'
  |none=>none
theorem SW.st {E':St} (hs:mB P N ops m E i=some E') (h:SW P N ops m (i+1) E' K):SW P N ops m i E K:=by
 unfold mB at hs
 cases hb:(Nat.blt i ops.size&&Nat.blt i m&&HC N (oA ops i))with
 |false=>rw [hb]at hs;cases hs
 |true=>
  rw [hb]at hs;simp only [Ag]at hs;simp only [Aq]at hb;obtain⟨d,h1,_,h2⟩:=Fg hb.2;unfold SW;rw [Or hb.1.1 hb.1.2];split at hs
  ·rename_i hg;split at hs
   ·rename_i s a
    injection hs with hs
    subst hs;rw [h1]at h;exact Jy.op s hg h1 h2 a h
   ·cases hs
  ·rename_i hg
   injection hs with hs
   subst hs;rw [h1]at h;exact yN h1 h2 hg h
  ·cases hs
theorem SW.run:∀{k i:Nat} {E E':St},YC P N ops m k i E=some E'->SW P N ops m (i+k) E' K->SW P N ops m i E K
 |0,i,E,E',h,hw=>by
  simp only [YC]at h
  injection h with h
  subst h;exact hw
 |k+1,i,E,E',h,hw=>by
  simp only [YC]at h;split at h
  ·rename_i E1 h1;exact SW.st h1 (SW.run h (by rw [Hi,TX 1 k];exact hw))
  ·cases h
theorem Dh (k:Nat) (h:SW P N ops m (i+k) ((YC P N ops m k i E).getD E) K) (hk:(YC P N ops m k i E).isSome=true:=by kernel_rfl):SW P N ops m i E K:=SW.run (getD_some hk) h
theorem SW.q {s:SV} (hp:Bj P E (oA ops i)=some s) (h:SW P N ops m (i+1) (E.put (oA ops i).dst s) K) (hk:(qok P N ops i E&&Nat.blt i m)=true:=by kernel_rfl):SW P N ops m i E K:=by
 rw [Aq]at hk;obtain⟨h1,h2,d,h3,h4,h5⟩:=nS hk.1;obtain⟨h6,h7⟩:=I5 h1;rw [h3]at h;unfold SW;rw [Or h6 hk.2];exact Jy.op s h7 h3 h5 (qC hp h2) h
theorem WD {tx ty:Option β} {b:Bool} (t:Nat) (h:(bif b then tx else ty)=some r) (ht:tx=some r->SW P N ops m i (E.rs t true) K) (hf:ty=some r->SW P N ops m i (E.rs t false) K) (hc:E.slots t=B b:=by kernel_rfl):SW P N ops m i E K:=ABx h t ht hf hc
def lsd (n:Nat):List Nat->Array Bool
 |[]=>Array.replicate n false
 |i::l=>(lsd n l).setIfInBounds i true
def KW (P:Program) (N:Nat) (ops:Array Oper) (ts:List Nat) (dn:List Nat) (E:St) (Q:Exit->St->Prop):Prop:=Dp P N ops ts (ops.size-dn.length) (lsd ops.size dn) E Q
def KB (P:Program) (N:Nat) (ops:Array Oper) (ts:List Nat) (dn:List Nat) (i:Nat) (E:St) (Q:Exit->St->Prop):Prop:=DD P N ops ts i E (fun E'=>KW P N ops ts (i::dn) E' Q) Q
variable {ts dn:List Nat}
theorem Ak (h:Q .normal E) (hr:(Region.ready .any ops (lsd ops.size dn)).isEmpty=true:=by kernel_rfl):KW P N ops ts dn E Q:=DL h (by simpa using hr)
def vJ (ops:Array Oper) (dn l:List Nat):Bool:=(Region.ready .any ops (lsd ops.size dn)==l)&&Nat.blt dn.length ops.size
theorem R7 (h:Nat.blt dn.length ops.size=true):ops.size-dn.length=(ops.size-(i::dn).length)+1:=by
 have:dn.length<ops.size:=by simpa [B3]using h
 simp only [Ax];omega
theorem KW.all (l:List Nat) (h:∀i∈l,KB P N ops ts dn i E Q) (a:l≠ []) (hr:vJ ops dn l=true):KW P N ops ts dn E Q:=by
 simp only [vJ,Aq,CV]at hr;unfold KW;rw [R7 (i:=0) hr.2];exact Dp.all l (fun i hi=>h i hi) hr.1 a
theorem BD (i:Nat) (h:KB P N ops ts dn i E Q) (hr:vJ ops dn [i]=true:=by kernel_rfl):KW P N ops ts dn E Q:=KW.all [i] (fun j hj=>by simp only [AA]at hj;subst hj;exact h) (by simp) hr
theorem Be (i j:Nat) (h:KB P N ops ts dn i E Q) (h2:KB P N ops ts dn j E Q) (hr:vJ ops dn [i,j]=true:=by kernel_rfl):KW P N ops ts dn E Q:=KW.all [i,j] (fun m hm=>by
 simp only [BL,NC,zS]at hm
 rcases hm with rfl|rfl<;>assumption) (by simp) hr
theorem Hg (i j k:Nat) (h:KB P N ops ts dn i E Q) (h2:KB P N ops ts dn j E Q) (h3:KB P N ops ts dn k E Q) (hr:vJ ops dn [i,j,k]=true:=by kernel_rfl):KW P N ops ts dn E Q:=KW.all [i,j,k] (fun m hm=>by
 simp only [BL,NC,zS]at hm
 rcases hm with rfl|rfl|rfl<;>assumption) (by simp) hr
theorem rN (i j k l:Nat) (h:KB P N ops ts dn i E Q) (h2:KB P N ops ts dn j E Q) (h3:KB P N ops ts dn k E Q) (h4:KB P N ops ts dn l E Q) (hr:vJ ops dn [i,j,k,l]=true:=by kernel_rfl):KW P N ops ts dn E Q:=KW.all [i,j,k,l] (fun m hm=>by
 simp only [BL,NC,zS]at hm
 rcases hm with rfl|rfl|rfl|rfl<;>assumption) (by simp) hr
theorem M5 {mv:Bool} {E':St} (hs:BZ P N mv E (oA ops i)=some E') (h:KW P N ops ts (i::dn) E' Q) (hk:(XY P ops E i&&(kp (oA ops i)||ts.contains i))=true:=by kernel_rfl):KB P N ops ts dn i E Q:=by
 rw [Aq]at hk;obtain⟨h1,h2⟩:=I5 hk.1;exact DD.op i mv h hs (HW h1) h2 hk.2
theorem KB.q {s:SV} (hp:Bj P E (oA ops i)=some s) (h:KW P N ops ts (i::dn) (E.put (oA ops i).dst s) Q) (hk:(qok P N ops i E&&(kp (oA ops i)||ts.contains i))=true:=by kernel_rfl):KB P N ops ts dn i E Q:=by
 rw [Aq]at hk;obtain⟨h1,h2,d,h3,h4,h5⟩:=nS hk.1;rw [h3]at h;exact M5 (M8 hp h3 h4 h2) h (by rw [h1,hk.2];rfl)
def rP (ops:Array Oper) (ts dn:List Nat) (i:Nat):Bool:=Nat.blt dn.length ops.size&&PN ops ts ops.size i (lsd ops.size dn)
theorem ACj {s:SV} (i:Nat) (hp:Ja P E (oA ops i)=some s) (h:KW P N ops ts (i::dn) (E.put (oA ops i).dst s) Q) (hk:(XY P ops E i&&HC N (oA ops i)&&rP ops ts dn i)=true):KW P N ops ts dn E Q:=by
 simp only [Aq,rP]at hk;obtain⟨⟨h1,h2⟩,h3,h4⟩:=hk;obtain⟨h5,h6⟩:=I5 h1;obtain⟨d,h7,h8,_⟩:=Fg h2;unfold KW at h⊢;rw [R7 (i:=i) h3];rw [h7]at h;exact Dp.take ops.size i d s h hp (HW h5) h4 h6 h7 h8
theorem KW.q {s:SV} (i:Nat) (hp:Bj P E (oA ops i)=some s) (h:KW P N ops ts (i::dn) (E.put (oA ops i).dst s) Q) (hk:(qok P N ops i E&&rP ops ts dn i)=true:=by kernel_rfl):KW P N ops ts dn E Q:=by
 rw [Aq]at hk;have h0:=hk.1;simp only [qok,Aq]at h0;exact ACj i (qC hp h0.1.2) h (by rw [h0.1.1,h0.2,hk.2];rfl)
theorem ACS (i:Nat) (h:KW P N ops ts (i::dn) (E.put (oA ops i).dst (.tup [])) Q) (hg:Bp P ops E (oA ops i)=some false) (hk:(Nat.blt i ops.size&&HC N (oA ops i)&&rP ops ts dn i)=true):KW P N ops ts dn E Q:=by
 simp only [Aq,rP]at hk;obtain⟨⟨h1,h2⟩,h3,h4⟩:=hk;obtain⟨d,h7,h8,_⟩:=Fg h2;unfold KW at h⊢;rw [R7 (i:=i) h3];rw [h7]at h;exact fH ops.size i d h (HW h1) h4 hg h7 h8
def wO (P:Program) (N:Nat) (ops:Array Oper) (ts:List Nat) (mv:Bool) (dn:List Nat) (E:St) (i:Nat):Option St:=match Bp P ops E (oA ops i)with
 |some false=>bif Nat.blt i ops.size&&HC N (oA ops i)&&rP ops ts dn i then some (E.put (oA ops i).dst (.tup []))else none
 |some true=>bif Nat.blt i ops.size&&HC N (oA ops i)&&rP ops ts dn i&&!mv then
   (match Ja P E (oA ops i)with
   |some s=>some (E.put (oA ops i).dst s)
   |none=>bif vJ ops dn [i]&&(kp (oA ops i)||ts.contains i)then BZ P N mv E (oA ops i)else none)
  else bif Nat.blt i ops.size&&vJ ops dn [i]&&(kp (oA ops i)||ts.contains i)then BZ P N mv E (oA ops i)else none
 |none=>none
def tA (P:Program) (N:Nat) (ops:Array Oper) (ts:List Nat):List Nat->Nat->List Nat->St->Option St
 |[],_,_,E=>some E
 |i::l,m,dn,E=>match wO P N ops ts (Nat.beq (m %2) 1) dn E i with
  |some E'=>tA P N ops ts l (m/2) (i::dn) E'
  |none=>none
def cS:List Nat->List Nat->List Nat
 |[],dn=>dn
 |i::l,dn=>cS l (i::dn)
theorem KW.st {i:Nat} {mv:Bool} {E':St} (hs:wO P N ops ts mv dn E i=some E') (h:KW P N ops ts (i::dn) E' Q):KW P N ops ts dn E Q:=by
 unfold wO at hs;split at hs
 ·rename_i hg
  cases hb:(Nat.blt i ops.size&&HC N (oA ops i)&&rP ops ts dn i)with
  |false=>rw [hb]at hs;cases hs
  |true=>
   rw [hb]at hs;simp only [Ag]at hs
   injection hs with hs
   subst hs;exact ACS i h hg hb
 ·rename_i hg;have one:(Nat.blt i ops.size&&vJ ops dn [i]&&(kp (oA ops i)||ts.contains i))=true->BZ P N mv E (oA ops i)=some E'->KW P N ops ts dn E Q:=by
   intro hb hs;simp only [Aq]at hb;refine BD i (M5 hs h ?_) hb.1.2;simp only [XY,hb.1.1,hg,hb.2,Lc]
  cases hb:(Nat.blt i ops.size&&HC N (oA ops i)&&rP ops ts dn i&&!mv)with
  |false=>
   rw [hb]at hs;simp only [Ae]at hs
   cases a:(Nat.blt i ops.size&&vJ ops dn [i]&&(kp (oA ops i)||ts.contains i))with
   |false=>rw [a]at hs;cases hs
   |true=>rw [a]at hs;exact one a hs
  |true=>
   rw [hb]at hs;simp only [Ag]at hs;simp only [Aq]at hb;split at hs
   ·rename_i s b
    injection hs with hs
    subst hs;refine ACj i b h ?_;simp only [XY,hb.1.1.1,hb.1.1.2,hb.1.2,hg,Lc]
   ·cases a:(vJ ops dn [i]&&(kp (oA ops i)||ts.contains i))with
    |false=>rw [a]at hs;cases hs
    |true=>rw [a]at hs;exact one (by rw [hb.1.1.1,CS];exact a) hs
 ·cases hs
theorem KW.run:∀{l:List Nat} {m:Nat} {dn:List Nat} {E E':St},tA P N ops ts l m dn E=some E'->KW P N ops ts (cS l dn) E' Q->KW P N ops ts dn E Q
 |[],m,dn,E,E',h,hw=>by
  simp only [tA]at h
  injection h with h
  subst h;exact hw
 |i::l,m,dn,E,E',h,hw=>by
  simp only [tA]at h;split at h
  ·rename_i E1 h1;exact KW.st h1 (KW.run h hw)
  ·cases h
theorem AC (l:List Nat) (m:Nat) (h:KW P N ops ts (cS l dn) ((tA P N ops ts l m dn E).getD E) Q) (hk:(tA P N ops ts l m dn E).isSome=true:=by kernel_rfl):KW P N ops ts dn E Q:=KW.run (getD_some hk) h
theorem WI {tx ty:Option β} {b:Bool} (t:Nat) (h:(bif b then tx else ty)=some r) (ht:tx=some r->KW P N ops ts dn (E.rs t true) Q) (hf:ty=some r->KW P N ops ts dn (E.rs t false) Q) (hc:E.slots t=B b:=by kernel_rfl):KW P N ops ts dn E Q:=ABI h t ht hf hc
theorem Av {id:Nat} (h:RW P N ops 0 E Q):Wp P N (.region id ops false) E Q:=by
 have:=Wp.region (id:=id) (l:=ops.toList) (P:=P) (N:=N) (E:=E) (Q:=Q) (by simpa [RW]using h);simpa using this
theorem Ln {id:Nat} (hm:P.follows .mixedOrders=true) (h:SW P N ops ops.size 0 E (fun E'=>Q .normal E')) (hB:Region.lexB .any ops=true:=by kernel_rfl):Wp P N (.region id ops true) E Q:=by
 have:=WB (id:=id) (l:=ops.toList) (P:=P) (N:=N) (E:=E) (Q:=Q) hm (by simpa using hB) (by
  have h2:=h;unfold SW at h2;rw [Bc (by simp)]at h2
  simpa using h2)
 simpa using this
theorem P1 {id:Nat} (n:Nat) (hm:P.follows .mixedOrders=true) (h:SW P N ops n 0 E (fun E'=>RW P N ops n E' Q)) (hB:Region.lexTailB .any ops n=true:=by kernel_rfl):Wp P N (.region id ops true) E Q:=by
 have:=pB (id:=id) (l:=ops.toList) (P:=P) (N:=N) (E:=E) (Q:=Q) n hm (by simpa using hB) (by simpa [SW,RW]using h);simpa using this
theorem Er {id:Nat} (ts:List Nat) (hm:P.follows .mixedOrders=true) (hQ:∀c E,Q (.panic c) E->False) (h:KW P N ops ts [] E Q):Wp P N (.region id ops true) E Q:=
 WC ops.size ts hm hQ (by simpa [KW,lsd]using h) rfl
end
end Go.TI
namespace Go.TI
open Go Go.RowKit
def YO (E:St) (x:Operand) (sz:Nat):Option (List TV):=match E.ref x with
 |some (r,q,j)=>match E.place r q j with
  |some (.sl _ _ s cells)=>bif Nat.beq s sz then some cells else none
  |_=>none
 |none=>none
theorem NY {E:St} {x:Operand} {sz:Nat} {cells:List TV} (h:YO E x sz=some cells):∃r q j own e,E.ref x=some (r,q,j)/\E.place r q j=some (.sl own e sz cells):=by
 unfold YO at h;split at h
 ·rename_i r q j hr;split at h
  ·rename_i own e s cells' hp
   cases hs:Nat.beq s sz with
   |false=>rw [hs]at h;cases h
   |true=>
    rw [hs]at h;simp only [Ag]at h
    injection h with h
    have:=Bo hs;subst h this;exact⟨r,q,j,own,e,hr,hp⟩
  ·cases h
 ·cases h
def TU (P:Program) (t:TypeId):TypeId:=match P.underlying t with
 |some (.slice e)=>e
 |_=>0
def Sg (P:Program) (t:TypeId) (sz:Nat):Bool:=match P.underlying t with
 |some (.slice e)=>Nat.beq (P.cellsOf e) sz&&Nat.blt 0 sz
 |_=>false
theorem Kt {P:Program} {t:TypeId} {sz:Nat} (h:Sg P t sz=true):∃e,P.underlying t=some (.slice e)/\P.cellsOf e=sz/\Nat.blt 0 sz=true:=by
 unfold Sg at h;split at h
 ·rename_i e he;rw [Aq]at h;exact⟨e,he,Bo h.1,h.2⟩
 ·cases h
def GP (E:St) (x:Operand):Root×List Nat×Nat:=(E.ptr? x).getD (.hand,[],0)
def JE (E:St) (x:Operand):Root×List Nat×Nat:=(E.ref x).getD (.hand,[],0)
def Pg (E:St) (x:Operand):Option (List TV×Nat):=match E.ptr? x with
 |some (r,q,j)=>match(E.root r).bind fun cs=>BO cs q with
  |some row=>some (row,j)
  |none=>none
 |none=>none
theorem Pf {E:St} {x:Operand} {row:List TV} {j:Nat} (h:Pg E x=some (row,j)):E.ptr? x=some ((GP E x).1,(GP E x).2.1,j)/\(E.root (GP E x).1).bind (fun cs=>BO cs (GP E x).2.1)=some row:=by
 unfold Pg at h;split at h
 ·rename_i r q j' hp;split at h
  ·rename_i row' hr
   injection h with h
   injection h with h1 h2
   subst h1 h2;simp only [GP,hp,Bx];exact⟨trivial,hr⟩
  ·cases h
 ·cases h
theorem sJ {E:St} {x:Operand} {r:Root} {q:List Nat} {j:Nat} {row:List TV} (h1:E.ptr? x=some (r,q,j)) (h2:(E.root r).bind (fun cs=>BO cs q)=some row):Pg E x=some (row,j):=by
 unfold Pg;rw [h1];simp only [h2]
section
variable {P:Program} {N:Nat} {E:St} {o:Oper} {α:Type} {f:α->List TV} {sz:Nat} {l:List α} {n:Int} {x:α}
def Fu (o:Oper):TypeId×Operand×Operand:=match o.op with
 | .indexAddr t a i=>(t,a,i)
 |_=>(0,.tmp 0,.tmp 0)
def tD (o:Oper):Bool:=match o.op with
 | .indexAddr .. =>true
 |_=>false
theorem dD (h:tD o=true):o.op= .indexAddr (Fu o).1 (Fu o).2.1 (Fu o).2.2:=by
 unfold tD at h;unfold Fu;split at h
 ·rename_i h1;simp only [h1]
 ·cases h
def Qi (P:Program) (E:St) (x:Operand):Option Int:=match E.cell1 P 0 x with
 |some (.int _ n)=>some n
 |_=>none
theorem H7 {x:Operand} (h:Qi P E x=some n):∃k,E.cell1 P 0 x=some (.int k n):=by
 unfold Qi at h;split at h
 ·rename_i k m hc
  injection h with h
  subst h;exact⟨k,hc⟩
 ·cases h
def AAX (P:Program) (E:St) (o:Oper) (sz:Nat):Option (List TV×Int):=bif tD o&&Sg P (Fu o).1 sz then(match YO E (Fu o).2.1 sz,Qi P E (Fu o).2.2 with
 |some c,some n=>some (c,n)
 |_,_=>none)else none
def qW (E:St) (o:Oper) (m:Nat):SV:= .one (.ptr (JE E (Fu o).2.1).1 (E.ver (JE E (Fu o).2.1).1) ((JE E (Fu o).2.1).2.1++ [(JE E (Fu o).2.1).2.2]) m)
theorem Ck (hf:∀x,(f x).length=sz) (hx:gi l n=some x) (hc:AAX P E o sz=some (Ah f l,n):=by kernel_rfl):Bj P E o=some (qW E o (n.toNat*sz+0)):=by
 unfold AAX at hc
 cases hb:(tD o&&Sg P (Fu o).1 sz)with
 |false=>rw [hb]at hc;cases hc
 |true=>
  rw [hb]at hc;simp only [Ag]at hc;rw [Aq]at hb;split at hc
  ·rename_i c n' h1 h2
   injection hc with hc
   injection hc with a b
   subst a b;obtain⟨r,q,j,own,e',h3,h4⟩:=NY h1;obtain⟨k,h5⟩:=H7 h2;obtain⟨e,h6,h7,h8⟩:=Kt hb.2;have:=zQ hf r q j hx h4 (dD hb.1) h6 h5 h3 h7 h8;rw [this];simp only [qW,JE,h3,Bx]
  ·cases hc
theorem AB2 {α':Type} {f':α'->List TV} {sz':Nat} {l':List α'} {n':Int} {x':α'} (hf:∀x,(f x).length=sz) (hx:gi l n=some x) (hf':∀x,(f' x).length=sz') (hx':gi l' n'=some x') (k:Nat)
  (hi:(tD o&&Sg P (Fu o).1 sz&&Nat.blt k sz')=true:=by kernel_rfl) (hn:Qi P E (Fu o).2.2=some n:=by kernel_rfl)
  (hr:E.ref (Fu o).2.1=some ((JE E (Fu o).2.1).1,(JE E (Fu o).2.1).2.1,n'.toNat*sz'+k):=by kernel_rfl) (hp:(E.root (JE E (Fu o).2.1).1).bind (fun cs=>BO cs (JE E (Fu o).2.1).2.1)=some (Ah f' l'):=by kernel_rfl)
  {own:Bool} {e':Nat} (hc:(f' x')[k]?=some (.sl own e' sz (Ah f l)):=by rfl):Bj P E o=some (qW E o (n.toNat*sz+0)):=by
 simp only [Aq]at hi;obtain⟨k',h5⟩:=H7 hn;obtain⟨e,h6,h7,h8⟩:=Kt hi.1.2;have a:E.place (JE E (Fu o).2.1).1 (JE E (Fu o).2.1).2.1 (n'.toNat*sz'+k)=some (.sl own e' sz (Ah f l)):=by
  obtain⟨cs,h1,h2⟩:=Au.1 hp;simp only [St.place,h1,Aa,h2];rw [MM hf' hx' (by simpa [B3]using hi.2),hc]
 have:=zQ hf _ _ _ hx a (dD hi.1.1) h6 h5 hr h7 h8;have hj:(JE E (Fu o).2.1).2.2=n'.toNat*sz'+k:=Dn (fun z:Option (Root×List Nat×Nat)=>(z.getD (Root.hand,[],0)).2.2) hr;rw [this,qW,hj]
theorem pr2 {α':Type} {f':α'->List TV} {sz':Nat} {l':List α'} {n':Int} {x':α'} {a:Operand} {row:List TV} {j:Nat} (q0:Nat) (hf':∀x,(f' x).length=sz') (hx':gi l' n'=some x') (k:Nat) (h1:E.ptr? a=some ((GP E a).1,[q0,n'.toNat*sz'+k],j):=by kernel_rfl)
  (hc:(E.root (GP E a).1).bind (fun cs=>BO cs [q0])=some (Ah f' l'):=by kernel_rfl) (b:BO (f' x') [k]=some row:=by kernel_rfl) (hk:Nat.blt k sz'=true:=by kernel_rfl):Pg E a=some (row,j):=by
 refine sJ h1 ?_;obtain⟨cs,h2,h3⟩:=Au.1 hc;have h4:=rF hf' hx' (q:=[]) (show k<sz' by simpa [B3]using hk);rw [h2];simp only [Aa];simp only [BO]at h3;split at h3
 ·rename_i o' e' s' cells c
  injection h3 with h3
  subst h3;simp only [BO,c];simp only [BO]at h4 b;rw [h4];exact b
 ·cases h3
def Pv (o:Oper):TypeId×Operand×Nat:=match o.op with
 | .fieldAddr t a i=>(t,a,i)
 |_=>(0,.tmp 0,0)
def ABn (o:Oper):Bool:=match o.op with
 | .fieldAddr .. =>true
 |_=>false
theorem AAl (h:ABn o=true):o.op= .fieldAddr (Pv o).1 (Pv o).2.1 (Pv o).2.2:=by
 unfold ABn at h;unfold Pv;split at h
 ·rename_i h1;simp only [h1]
 ·cases h
def AAZ (P:Program) (o:Oper):Option Nat:=match P.underlying (Pv o).1 with
 |some (.struct fs)=>match fs[(Pv o).2.2]? with
  |some fd=>bif Nat.beq (P.cellsOf fd.type) 0 then none else some fd.offset
  |none=>none
 |_=>none
def ACe (E:St) (o:Oper) (m:Nat):SV:= .one (.ptr (GP E (Pv o).2.1).1 (E.stamp (GP E (Pv o).2.1).1 (GP E (Pv o).2.1).2.1) (GP E (Pv o).2.1).2.1 m)
theorem DB (hf:∀x,(f x).length=sz) (hx:gi l n=some x) (k m:Nat) (hr:Pg E (Pv o).2.1=some (Ah f l,n.toNat*sz+k):=by kernel_rfl) (ho:(ABn o&&Nat.blt m sz)=true:=by kernel_rfl) (a:AAZ P o=some (m-k):=by kernel_rfl) (b:Nat.ble k m=true:=by kernel_rfl):Bj P E o=some (ACe E o (n.toNat*sz+m)):=by
 rw [Aq]at ho;obtain⟨h1,h2⟩:=Pf hr;have d:k<=m:=by simpa [Qb]using b
 unfold AAZ at a;split at a
 ·rename_i fs hs;split at a
  ·rename_i fd c
   cases hb:Nat.beq (P.cellsOf fd.type) 0 with
   |true=>rw [hb]at a;cases a
   |false=>
    rw [hb]at a;simp only [Ae]at a
    injection a with a
    have hm:k+fd.offset=m:=by omega
    exact ACH hf _ _ k hx h2 (AAl ho.1) hs h1 c hb hm (by rw [hm];exact ho.2)
  ·cases a
 ·cases a
def MI (o:Oper):TypeId×Operand:=match o.op with
 | .load t a=>(t,a)
 |_=>(0,.tmp 0)
def AAk (o:Oper):Bool:=match o.op with
 | .load .. =>true
 |_=>false
theorem qY (h:AAk o=true):o.op= .load (MI o).1 (MI o).2:=by
 unfold AAk at h;unfold MI;split at h
 ·rename_i h1;simp only [h1]
 ·cases h
def AAV (P:Program) (o:Oper) (k sz:Nat):Bool:=AAk o&&!WA P (MI o).1&&Nat.beq (P.cellsOf (MI o).1) 1&&(P.underlying (MI o).1).isSome&&Nat.blt k sz
def AAW (P:Program) (o:Oper) (k m sz:Nat):Bool:=AAk o&&WA P (MI o).1&&Nat.beq (P.cellsOf (MI o).1) m&&Nat.ble (k+m) sz
def ldC (E:St) (o:Oper) (j:Nat) (u:TV):SV:= .one (see E (GP E (MI o).2).1 (GP E (MI o).2).2.1 j u)
def ldA (E:St) (o:Oper) (j:Nat) (us:List TV):SV:= .agg (Qa E (GP E (MI o).2).1 (GP E (MI o).2).2.1 j us)
theorem CG (hf:∀x,(f x).length=sz) (hx:gi l n=some x) (k:Nat) (hr:Pg E (MI o).2=some (Ah f l,n.toNat*sz+k):=by kernel_rfl) (ho:AAV P o k sz=true:=by kernel_rfl):Bj P E o=some (ldC E o (n.toNat*sz+k) (((f x)[k]?).getD .junk)):=by
 simp only [AAV,Aq,Dq]at ho;obtain⟨⟨⟨⟨h3,h4⟩,h5⟩,h6⟩,h7⟩:=ho;obtain⟨h1,h2⟩:=Pf hr;have hk:k<(f x).length:=by rw [hf];simpa [B3]using h7
 refine ACG hf _ _ k _ hx h2 (qY h3) h1 h4 (Bo h5) h6 h7 ?_;rw [Ac hk];rfl
theorem Rx (hf:∀x,(f x).length=sz) (hx:gi l n=some x) (k m:Nat) (hr:Pg E (MI o).2=some (Ah f l,n.toNat*sz+k):=by kernel_rfl) (ho:AAW P o k m sz=true:=by kernel_rfl):Bj P E o=some (ldA E o (n.toNat*sz+k) (((f x).drop k).take m)):=by
 simp only [AAW,Aq]at ho;obtain⟨⟨⟨h3,h4⟩,h5⟩,h6⟩:=ho;obtain⟨h1,h2⟩:=Pf hr;exact ACF hf _ _ k m hx h2 (qY h3) h1 h4 (Bo h5) h6
def Nr (o:Oper):TypeId×Operand:=match o.op with
 | .call c=>match c.callee,c.args.toList,c.argTypes.toList with
  | .builtin .len,[x],[t]=>(t,x)
  |_,_,_=>(0,.tmp 0)
 |_=>(0,.tmp 0)
def AAj (o:Oper):Bool:=match o.op with
 | .call c=>match c.callee,c.args.toList,c.argTypes.toList with
  | .builtin .len,[x],[t]=>true
  |_,_,_=>false
 |_=>false
theorem qX (h:AAj o=true):o.op= .call {callee:= .builtin .len,args:= #[(Nr o).2],argTypes:= #[(Nr o).1]}:=by
 unfold AAj at h;unfold Nr;split at h
 ·rename_i c hc;split at h
  ·rename_i x t h1 h2 h3;obtain⟨callee,args,types⟩:=c;simp only at h1 h2 h3;subst h1;obtain rfl:args= #[x]:=by cases args;simp_all
   obtain rfl:types= #[t]:=by cases types;simp_all
   rw [hc]
  ·cases h
 ·cases h
theorem D5 (hf:∀x,(f x).length=sz) (l:List α) (hr:YO E (Nr o).2 sz=some (Ah f l):=by kernel_rfl) (ho:(AAj o&&Sg P (Nr o).1 sz)=true:=by kernel_rfl):Bj P E o=some (.one (.int .i64 (ln l))):=by
 rw [Aq]at ho;obtain⟨r,q,j,own,e',h3,h4⟩:=NY hr;obtain⟨e,h6,h7,h8⟩:=Kt ho.2;exact zP hf l (qX ho.1) h6 h3 h4 h8
theorem ACB {α':Type} {f':α'->List TV} {sz':Nat} {l':List α'} {n':Int} {x':α'} (hf:∀x,(f x).length=sz) (l:List α) (hf':∀x,(f' x).length=sz') (hx':gi l' n'=some x') (k:Nat) (ho:(AAj o&&Sg P (Nr o).1 sz&&Nat.blt k sz')=true:=by kernel_rfl)
  (hr:E.ref (Nr o).2=some ((JE E (Nr o).2).1,(JE E (Nr o).2).2.1,n'.toNat*sz'+k):=by kernel_rfl) (hp:(E.root (JE E (Nr o).2).1).bind (fun cs=>BO cs (JE E (Nr o).2).2.1)=some (Ah f' l'):=by kernel_rfl)
  {own:Bool} {e':Nat} (hc:(f' x')[k]?=some (.sl own e' sz (Ah f l)):=by rfl):Bj P E o=some (.one (.int .i64 (ln l))):=by
 simp only [Aq]at ho;obtain⟨e,h6,h7,h8⟩:=Kt ho.1.2;have a:E.place (JE E (Nr o).2).1 (JE E (Nr o).2).2.1 (n'.toNat*sz'+k)=some (.sl own e' sz (Ah f l)):=by
  obtain⟨cs,h1,h2⟩:=Au.1 hp;simp only [St.place,h1,Aa,h2];rw [MM hf' hx' (by simpa [B3]using ho.2),hc]
 exact zP hf l (qX ho.1.1) h6 hr a h8
def SJ (P:Program) (E:St) (t:TypeId) (x:Operand):Option ByteArray:=match E.cell1 P t x with
 |some (.str s)=>some s
 |_=>none
theorem JH {t:TypeId} {x:Operand} {s:ByteArray} (h:SJ P E t x=some s):E.cell1 P t x=some (.str s):=by
 unfold SJ at h;split at h
 ·rename_i u hu
  injection h with h
  rw [hu,h]
 ·cases h
def Zi (P:Program) (t:TypeId):Bool:=match P.underlying t with
 |some .string=>true
 |_=>false
theorem R8 {t:TypeId} (h:Zi P t=true):P.underlying t=some .string:=by
 unfold Zi at h;split at h
 ·assumption
 ·cases h
def AAK (P:Program) (E:St) (o:Oper):Option (ByteArray×Int):=match o.op with
 | .index t a i=>match Zi P t,SJ P E t a,Qi P E i with
  |true,some s,some n=>some (s,n)
  |_,_,_=>none
 |_=>none
theorem fO {s:ByteArray} {n b:Int} (h:sx s n=some b) (hc:AAK P E o=some (s,n):=by kernel_rfl):Bj P E o=some (.one (.int .u8 b)):=by
 unfold AAK at hc;split at hc
 ·rename_i t a i ho;split at hc
  ·rename_i s' n' h1 h2 h3
   injection hc with hc
   injection hc with c d
   subst c d;obtain⟨k,h3⟩:=H7 h3;exact ACE h ho (R8 h1) (JH h2) h3
  ·cases hc
 ·cases hc
def Zl (P:Program) (E:St) (d:Int):Option Operand->Option Int
 |none=>some d
 |some x=>Qi P E x
def uT (P:Program) (E:St) (o:Oper):Option (ByteArray×Int×Int):=match o.op with
 | .slice t a lo hi none=>match Zi P t,SJ P E t a with
  |true,some s=>match Zl P E 0 lo,Zl P E (s.size:Nat) hi with
   |some l,some h=>some (s,l,h)
   |_,_=>none
  |_,_=>none
 |_=>none
theorem On {d n:Int} {x:Option Operand} (h:Zl P E d x=some n):∃k,(match x with|some o=>E.cell1 P 0 o|none=>some (.int .i64 d))=some (.int k n):=by
 cases x with
 |none=>
  simp only [Zl]at h
  injection h with h
  exact⟨.i64,by rw [h]⟩
 |some x=>exact H7 h
theorem Ph {s u:ByteArray} {l h:Int} (hx:sub s l h=some u) (hc:uT P E o=some (s,l,h):=by kernel_rfl):Bj P E o=some (.one (.str u)):=by
 unfold uT at hc;split at hc
 ·rename_i t a lo hi ho;split at hc
  ·rename_i s' h1 h2;split at hc
   ·rename_i l' h' h3 h4
    injection hc with hc
    injection hc with c b
    injection b with b d
    subst c b d;obtain⟨k1,h3⟩:=On h3;obtain⟨k2,h4⟩:=On h4;exact AB3 hx ho (R8 h1) (JH h2) h3 h4
   ·cases hc
  ·cases hc
 ·cases hc
def xY (P:Program) (E:St) (o:Oper):Option (ByteArray×ByteArray):=match o.op with
 | .binOp .add t x y _=>match SJ P E t x,SJ P E t y with
  |some a,some b=>some (a,b)
  |_,_=>none
 |_=>none
theorem OD {a b u:ByteArray} (hx:SA a b=some u) (hc:xY P E o=some (a,b):=by kernel_rfl):Bj P E o=some (.one (.str u)):=by
 unfold xY at hc;split at hc
 ·rename_i t x y t' ho;split at hc
  ·rename_i a' b' h1 h2
   injection hc with hc
   injection hc with c d
   subst c d;exact AB7 hx ho (JH h1) (JH h2)
  ·cases hc
 ·cases hc
def OB (o:Oper):TypeId×TypeId×Operand:=match o.op with
 | .convert s d x=>(s,d,x)
 |_=>(0,0,.tmp 0)
def ACf (P:Program) (o:Oper):Bool:=match o.op with
 | .convert s d x=>(match P.underlying s,P.underlying d with
  |some (.slice e),some .string=>(match P.underlying e with
   |some (.int .u8)=>true
   |_=>false)
  |_,_=>false)
 |_=>false
theorem zO {f:Int->List TV} (hf:∀n,f n=[.int .u8 n]) (l:List Int) (hr:YO E (OB o).2.2 1=some (Ah f l):=by kernel_rfl) (ho:ACf P o=true:=by kernel_rfl):Bj P E o=some (.one (.str (Hh l))):=by
 obtain⟨r,q,j,own,e',h3,h4⟩:=NY hr;unfold ACf at ho;split at ho
 ·rename_i s d x a;split at ho
  ·rename_i e hs hd;split at ho
   ·rename_i he;simp only [OB,a]at h3;exact ACJ hf l a hs hd he h3 h4
   ·cases ho
  ·cases ho
 ·cases ho
def uZ (P:Program) (E:St) (o:Oper) (k:IntKind):Option (Int×Int):=match o.op with
 | .binOp .shl t x y _=>match E.cell1 P t x,E.cell1 P t y with
  |some (.int k' a),some (.int _ b)=>bif decide (k'=k)then some (a,b)else none
  |_,_=>none
 |_=>none
theorem ACA {k:IntKind} {a b v:Int} (hx:shl k a b=some v) (hc:uZ P E o k=some (a,b):=by kernel_rfl):Bj P E o=some (.one (.int k v)):=by
 unfold uZ at hc;split at hc
 ·rename_i t x y t' ho;split at hc
  ·rename_i k' a' k2 b' h1 h2
   cases hk:decide (k'=k)with
   |false=>rw [hk]at hc;cases hc
   |true=>
    rw [hk]at hc;simp only [Ag]at hc
    injection hc with hc
    injection hc with hc1 hc2
    have:=IY hk;subst hc1 hc2 this;exact AB4 hx ho h1 h2
  ·cases hc
 ·cases hc
def N5 (o:Oper):TypeId×Operand×Option Operand×Option Operand:=match o.op with
 | .slice t x lo hi none=>(t,x,lo,hi)
 |_=>(0,.tmp 0,none,none)
def AAm (o:Oper):Bool:=match o.op with
 | .slice t x lo hi none=>true
 |_=>false
theorem qZ (h:AAm o=true):o.op= .slice (N5 o).1 (N5 o).2.1 (N5 o).2.2.1 (N5 o).2.2.2 none:=by
 unfold AAm at h;unfold N5;split at h
 ·rename_i h1;simp only [h1]
 ·cases h
def qE (E:St) (x:Operand) (sz:Nat):Option (Nat×List TV):=match E.ref x with
 |some (r,q,j)=>match E.place r q j with
  |some (.sl false e s cells)=>bif Nat.beq s sz then some (e,cells)else none
  |_=>none
 |none=>none
theorem VO {x:Operand} {cells:List TV} {e:Nat} (h:qE E x sz=some (e,cells)):∃r q j,E.ref x=some (r,q,j)/\E.place r q j=some (.sl false e sz cells):=by
 unfold qE at h;split at h
 ·rename_i r q j hr;split at h
  ·rename_i e' s cells' hp
   cases hs:Nat.beq s sz with
   |false=>rw [hs]at h;cases h
   |true=>
    rw [hs]at h;simp only [Ag]at h
    injection h with h
    injection h with h1 h2
    have:=Bo hs;subst h1 h2 this;exact⟨r,q,j,hr,hp⟩
  ·cases h
 ·cases h
theorem pdr (hf:∀x,(f x).length=sz) {v:List α} {a b:Int} (e:Nat) (hx:dr l a b=some v) (hr:qE E (N5 o).2.1 sz=some (e,Ah f l):=by kernel_rfl) (ha:Zl P E 0 (N5 o).2.2.1=some a:=by kernel_rfl) (hb:((N5 o).2.2.2.bind (Qi P E))=some b:=by kernel_rfl)
  (ho:(AAm o&&Sg P (N5 o).1 sz)=true:=by kernel_rfl):Bj P E o=some (.one (.sl false e sz (Ah f v))):=by
 rw [Aq]at ho;obtain⟨r,q,j,h1,h2⟩:=VO hr;obtain⟨e1,h6,h7,h8⟩:=Kt ho.2;obtain⟨k1,h3⟩:=On ha;obtain⟨oh,h4,h5⟩:=Au.1 hb;obtain⟨k2,h5⟩:=H7 h5;have:=qZ ho.1;rw [h4]at this;exact ACI hf hx this h6 h1 h2 h3 h5 h7 h8
theorem ACC (hf:∀x,(f x).length=sz) {v:List α} {a:Int} (e:Nat) (hx:dr l a (ln l)=some v) (hr:qE E (N5 o).2.1 sz=some (e,Ah f l):=by kernel_rfl) (ha:Zl P E 0 (N5 o).2.2.1=some a:=by kernel_rfl)
  (ho:(AAm o&&Sg P (N5 o).1 sz&&(N5 o).2.2.2.isNone)=true:=by kernel_rfl):Bj P E o=some (.one (.sl false e sz (Ah f v))):=by
 simp only [Aq]at ho;obtain⟨r,q,j,h1,h2⟩:=VO hr;obtain⟨e1,h6,h7,h8⟩:=Kt ho.1.2;obtain⟨k1,h3⟩:=On ha;have:=qZ ho.1.1;rw [Option.isNone_iff_eq_none.1 ho.2]at this;exact AB6 hf hx this h6 h1 h2 h3 h7 h8
def ABU (P:Program) (E:St) (o:Oper) (m:Nat):Bool:=match P.underlying (Fu o).1 with
 |some (.array len e)=>tD o&&Nat.beq (P.cellsOf e) 1&&Nat.blt m len&&(match E.ptr? (Fu o).2.1 with
  |some (r,q,j)=>(E.place r q (j+m)).isSome
  |none=>false)
 |_=>false
def AAH (E:St) (o:Oper) (m:Nat):SV:= .one (.ptr (GP E (Fu o).2.1).1 (E.stamp (GP E (Fu o).2.1).1 (GP E (Fu o).2.1).2.1) (GP E (Fu o).2.1).2.1 ((GP E (Fu o).2.1).2.2+m))
theorem pxa (m:Nat) (hn:n=(m:Int)) (hi:Qi P E (Fu o).2.2=some n:=by kernel_rfl) (ho:ABU P E o m=true:=by kernel_rfl):Bj P E o=some (AAH E o m):=by
 unfold ABU at ho;split at ho
 ·rename_i len e ht;simp only [Aq]at ho;obtain⟨⟨⟨h1,h2⟩,h3⟩,h4⟩:=ho;obtain⟨k,hi⟩:=H7 hi;split at h4
  ·rename_i r q j hp;have:=ACD r q j hn (dD h1) ht hi hp (Bo h2) h3 h4;rw [this];simp only [AAH,GP,hp,Bx]
  ·cases h4
 ·cases ho
end
end Go.TI
namespace Go.TI
open Go Go.RowKit
section
variable {P:Program} {N:Nat} {E:St} {o:Oper} {α:Type} {f:α->List TV} {sz:Nat} {l:List α} {n:Int} {x:α}
def El (o:Oper):TypeId×TypeId×Operand×Operand:=match o.op with
 | .call c=>match c.callee,c.args.toList,c.argTypes.toList with
  | .builtin .append,[s,x],[t,t']=>(t,t',s,x)
  |_,_,_=>(0,0,.tmp 0,.tmp 0)
 |_=>(0,0,.tmp 0,.tmp 0)
def wQ (o:Oper):Bool:=match o.op with
 | .call c=>match c.callee,c.args.toList,c.argTypes.toList with
  | .builtin .append,[s,x],[t,t']=>true
  |_,_,_=>false
 |_=>false
theorem dE (h:wQ o=true):o.op= .call {callee:= .builtin .append,args:= #[(El o).2.2.1,(El o).2.2.2],argTypes:= #[(El o).1,(El o).2.1]}:=by
 unfold wQ at h;unfold El;split at h
 ·rename_i c hc;split at h
  ·rename_i s x t t' h1 h2 h3;obtain⟨callee,args,types⟩:=c;simp only at h1 h2 h3;subst h1;obtain rfl:args= #[s,x]:=by cases args;simp_all
   obtain rfl:types= #[t,t']:=by cases types;simp_all
   rw [hc]
  ·cases h
 ·cases h
def AAB (P:Program) (N:Nat) (o:Oper) (sz by_:Nat):Bool:=wQ o&&Nat.beq (El o).1 (El o).2.1&&Sg P (El o).1 sz&&(Iw P (TU P (El o).1)).isSome&&Nat.beq (P.bytesOf (TU P (El o).1)) by_&&Nat.blt 0 by_&&HC N o
def Qn (P:Program) (E:St) (o:Oper) (sz:Nat):Option (List TV×St):=match E.cell1 P (El o).1 (El o).2.2.1 with
 |some sv=>match CX E sv with
  |some (.sl true e s cells,E1)=>bif Nat.beq e (TU P (El o).1)&&Nat.beq s sz then some (cells,E1)else none
  |_=>none
 |none=>none
def apE (P:Program) (E:St) (o:Oper) (sz:Nat):St:=((Qn P E o sz).map Prod.snd).getD E
def apV (P:Program) (o:Oper) (sz:Nat) (row:List TV):SV:= .one (.sl true (TU P (El o).1) sz row)
def yI (P:Program) (E1:St) (o:Oper) (sz:Nat):Option (Nat×List TV×St):=match E1.ref (El o).2.2.2 with
 |some (r,q,j)=>match E1.place r q j with
  |some (.sl _ _ s cells)=>bif Nat.beq s sz then(match Eq E1 (Qa E1 r (q++ [j]) 0 cells)with
   |some (news,E2)=>some (cells.length,news,E2)
   |none=>none)else none
  |_=>none
 |none=>none
theorem Ul {t:TypeId} {e:TypeId} (h:P.underlying t=some (.slice e)):TU P t=e:=by unfold TU;rw [h]
theorem ACd (hf:∀x,(f x).length=sz) (l m:List α) {by_:Nat} {u:List α} (h:ap by_ l m=some u) {E1 E2:St} (hd:Qn P E o sz=some (Ah f l,E1)) {r:Root} {q:List Nat} {j:Nat} {own:Bool} {e2:Nat} {cells2:List TV} (hr:E1.ref (El o).2.2.2=some (r,q,j)) (hp:E1.place r q j=some (.sl own e2 sz cells2))
  (hn:Eq E1 (Qa E1 r (q++ [j]) 0 cells2)=some (Ah f m,E2)) (hl:cells2.length=m.length*sz) (ho:AAB P N o sz by_=true):BZ P N false E o=some (E2.put o.dst (apV P o sz (Ah f u))):=by
 obtain⟨rfl,g⟩:=rJ h;simp only [AAB,Aq]at ho;obtain⟨⟨⟨⟨⟨⟨a1,a2⟩,a3⟩,a4⟩,a5⟩,a6⟩,a7⟩:=ho;obtain⟨d,a8,_,a9⟩:=Fg a7;obtain⟨e,b1,b2,b3⟩:=Kt a3;have a:=Ul b1;rw [a]at a4 a5;have h0':0<sz:=by simpa [B3]using b3
 have hb0':0<by_:=by simpa [B3]using a6
 have hb:=Bo a5;have i:=Bo a2;unfold Qn at hd;rw [a]at hd;split at hd
 ·rename_i sv hs;split at hd
  ·rename_i e1 s cells E1' h1
   cases hc:(Nat.beq e1 e&&Nat.beq s sz)with
   |false=>rw [hc]at hd;cases hd
   |true=>
    rw [hc]at hd;simp only [Ag]at hd
    injection hd with hd
    injection hd with hd1 hd2
    rw [Aq]at hc;have c1:=Bo hc.1;have c2:=Bo hc.2;subst hd1 hd2 c1 c2;have b:(Ah f l).length/s=l.length:=by rw [Ff hf];exact D3 _ h0'
    have c:cells2.length/s=m.length:=by rw [hl];exact D3 _ h0'
    have k:l.length+m.length<=(l.length+m.length)*by_:=Nat.le_mul_of_pos_right _ hb0';unfold BZ;rw [a8];simp only [Az a9,dE a1,Az i,Ke,b1,hs,h1,hr,hp,hn];rw [Az ⟨trivial,b2.symm,trivial,h0',a4,by rw [b,c];omega,by rw [b,c,hb];exact g⟩,MN,apV,a]
  ·cases hd
 ·cases hd
theorem QL {row:List TV} (h:(Qn P E o sz).map Prod.fst=some row):Qn P E o sz=some (row,apE P E o sz):=by
 unfold apE
 cases hx:Qn P E o sz with
 |none=>rw [hx]at h;cases h
 |some z=>
  rw [hx]at h;simp only [B8]at h
  injection h with h
  subst h;rfl
theorem DY (hf:∀x,(f x).length=sz) (hg:∀x,H5 (f x)=true) (l:List α) {m u:List α} {by_:Nat} (h:ap by_ l m=some u) (hd:(Qn P E o sz).map Prod.fst=some (Ah f l):=by kernel_rfl) (hm:YO (apE P E o sz) (El o).2.2.2 sz=some (Ah f m):=by kernel_rfl) (ho:AAB P N o sz by_=true:=by kernel_rfl):
  BZ P N false E o=some ((apE P E o sz).put o.dst (apV P o sz (Ah f u))):=by
 obtain⟨r,q,j,own,e,h1,h2⟩:=NY hm;exact ACd hf l m h (QL hd) h1 h2 (by rw [Qv _ (Mj hg m),KR (Mj hg m)]) (Ff hf m) ho
theorem oZ (hf:∀x,(f x).length=sz) (l m:List α) {u:List α} {by_:Nat} (h:ap by_ l m=some u) (hd:(Qn P E o sz).map Prod.fst=some (Ah f l):=by kernel_rfl) (hm:(yI P (apE P E o sz) o sz).map (fun z=>(z.1,z.2.1))=some (m.length*sz,Ah f m):=by kernel_rfl) (ho:AAB P N o sz by_=true:=by kernel_rfl):
  BZ P N false E o=some ((((yI P (apE P E o sz) o sz).map (fun z=>z.2.2)).getD E).put o.dst (apV P o sz (Ah f u))):=by
 have hd':=QL hd;generalize hE:apE P E o sz=E1 at hm hd'⊢;unfold yI at hm⊢
 cases hr:E1.ref (El o).2.2.2 with
 |none=>simp only [hr]at hm;cases hm
 |some z=>
  obtain⟨r,q,j⟩:=z;simp only [hr]at hm⊢
  cases hp:E1.place r q j with
  |none=>simp only [hp]at hm;cases hm
  |some t=>
   simp only [hp]at hm⊢
   cases t with
   |sl own e2 s cells=>
    simp only at hm⊢
    cases hb:Nat.beq s sz with
    |false=>rw [hb]at hm;cases hm
    |true=>
     rw [hb]at hm;simp only [Ag]at hm⊢;have:=Bo hb;subst this
     cases hn:Eq E1 (Qa E1 r (q++ [j]) 0 cells)with
     |none=>simp only [hn]at hm;cases hm
     |some y=>
      obtain⟨news,E2⟩:=y;simp only [hn,B8]at hm⊢
      injection hm with hm
      injection hm with hm1 hm2
      subst hm2;exact ACd hf l m h hd' hr hp hn hm1 ho
   |_=>simp only at hm;cases hm
def AA1 (P:Program) (N:Nat) (o:Oper):Bool:=wQ o&&Sg P (El o).1 1&&Zi P (El o).2.1&&!Nat.beq (El o).1 (El o).2.1&&AAe P (TU P (El o).1)&&HC N o
theorem oY {f:Int->List TV} (hf:∀n,f n=[.int .u8 n]) (l:List Int) {b:ByteArray} {u:List Int} (h:aps l b=some u) (hd:(Qn P E o 1).map Prod.fst=some (Ah f l):=by kernel_rfl) (hx:SJ P E (El o).2.1 (El o).2.2.2=some b:=by kernel_rfl) (ho:AA1 P N o=true:=by kernel_rfl):
  BZ P N false E o=some ((apE P E o 1).put o.dst (apV P o 1 (Ah f u))):=by
 have hd':=QL hd;simp only [AA1,Aq,Dq]at ho;obtain⟨⟨⟨⟨⟨a1,a2⟩,a3⟩,a4⟩,a5⟩,a6⟩:=ho;obtain⟨d,a8,_,a9⟩:=Fg a6;obtain⟨e,b1,b2,b3⟩:=Kt a2;have a:=Ul b1;have c:=R8 a3;have g:=JH hx;have hne':(El o).1≠(El o).2.1:=by intro e;rw [e]at a4;simp at a4
 rw [a]at a5;unfold aps at h;split at h
 case isFalse=>cases h
 rename_i hb
 injection h with h
 subst h;have hl:(Ah f l).length=l.length:=by rw [Ff (sz:=1) (fun n=>by rw [hf];rfl),Nat.mul_one]
 generalize hE:apE P E o 1=E1 at hd'⊢;unfold Qn at hd';rw [a]at hd';split at hd'
 ·rename_i sv hs;split at hd'
  ·rename_i e1 s cells E1' h1
   cases hc:(Nat.beq e1 e&&Nat.beq s 1)with
   |false=>rw [hc]at hd';cases hd'
   |true=>
    rw [hc]at hd';simp only [Ag]at hd'
    injection hd' with hd'
    injection hd' with hd1 hd2
    rw [Aq]at hc;have c1:=Bo hc.1;have c2:=Bo hc.2;subst hd1 hd2 c1 c2;unfold BZ;rw [a8];simp only [Az a9,dE a1,A5 hne',Oq,b1,c,hs,g,h1];rw [Az ⟨trivial,trivial,a5,by rw [hl];exact hb⟩,SI hf,MN,apV,a]
  ·cases hd'
 ·cases hd'
def Qh (o:Oper):TypeId×Operand×Operand:=match o.op with
 | .makeSlice t l c=>(t,l,c)
 |_=>(0,.tmp 0,.tmp 0)
def ABm (o:Oper):Bool:=match o.op with
 | .makeSlice .. =>true
 |_=>false
theorem AAh (h:ABm o=true):o.op= .makeSlice (Qh o).1 (Qh o).2.1 (Qh o).2.2:=by
 unfold ABm at h;unfold Qh;split at h
 ·rename_i h1;simp only [h1]
 ·cases h
def AB9 (P:Program) (N:Nat) (o:Oper) (sz by_:Nat):Bool:=ABm o&&Sg P (Qh o).1 sz&&Nat.beq (P.bytesOf (TU P (Qh o).1)) by_&&HC N o
theorem fmk (hf:∀x,(f x).length=sz) (z:α) {by_:Nat} {u:List α} (h:mk by_ z n=some u) (hl:Qi P E (Qh o).2.1=some n:=by kernel_rfl) (hc:Qi P E (Qh o).2.2=some n:=by kernel_rfl) (hz:Iw P (TU P (Qh o).1)=some (f z):=by kernel_rfl) (ho:AB9 P N o sz by_=true:=by kernel_rfl):
  BZ P N false E o=some (E.put o.dst (.one (.sl true (TU P (Qh o).1) sz (Ah f u)))):=by
 simp only [AB9,Aq]at ho;obtain⟨⟨⟨a1,a2⟩,a3⟩,a4⟩:=ho;obtain⟨d,a5,a6,_⟩:=Fg a4;obtain⟨e,b1,b2,b3⟩:=Kt a2;have a:=Ul b1;rw [a]at hz a3⊢;obtain⟨k1,hl⟩:=H7 hl;obtain⟨k2,hc⟩:=H7 hc;rw [a5];exact ACy z h (AAh a1) a5 a6 b1 hl hc hz rfl (Bo a3) b2
def ABl (o:Oper):Bool:=match o.op with
 | .convert .. =>true
 |_=>false
theorem AAg (h:ABl o=true):o.op= .convert (OB o).1 (OB o).2.1 (OB o).2.2:=by
 unfold ABl at h;unfold OB;split at h
 ·rename_i h1;simp only [h1]
 ·cases h
def ABW (P:Program) (N:Nat) (o:Oper):Bool:=ABl o&&Zi P (OB o).1&&Sg P (OB o).2.1 1&&jM P (TU P (OB o).2.1)&&HC N o
theorem fsb {f:Int->List TV} (hf:∀n,f n=[.int .u8 n]) {b:ByteArray} (hx:SJ P E (OB o).1 (OB o).2.2=some b) (ho:ABW P N o=true:=by kernel_rfl):BZ P N false E o=some (E.put o.dst (.one (.sl false (TU P (OB o).2.1) 1 (Ah f (mG b))))):=by
 simp only [ABW,Aq]at ho;obtain⟨⟨⟨⟨a1,a2⟩,a3⟩,a4⟩,a5⟩:=ho;obtain⟨d,a6,a7,_⟩:=Fg a5;obtain⟨e,b1,b2,b3⟩:=Kt a3;have a:=Ul b1;rw [a]at a4⊢;rw [a6];exact ACx hf (AAg a1) a6 a7 (R8 a2) b1 (JH hx) a4
def OQ (o:Oper):TypeId×Operand×Operand:=match o.op with
 | .store t a x=>(t,a,x)
 |_=>(0,.tmp 0,.tmp 0)
def ABk (o:Oper):Bool:=match o.op with
 | .store .. =>o.dst.isNone
 |_=>false
theorem AAf (h:ABk o=true):o.op= .store (OQ o).1 (OQ o).2.1 (OQ o).2.2/\o.dst=none:=by
 unfold ABk at h;unfold OQ;split at h
 ·rename_i h1;simp only [h1];exact⟨trivial,Option.isNone_iff_eq_none.1 h⟩
 ·cases h
def Sf (P:Program) (E:St) (o:Oper):Option (List TV×St):=match E.val P (OQ o).1 (OQ o).2.2 with
 |some s=>KQ E s
 |none=>none
def uW (P:Program) (E:St) (o:Oper):List TV:=((Sf P E o).map Prod.fst).getD []
def mA (P:Program) (E:St) (o:Oper):St:=((Sf P E o).map Prod.snd).getD E
def yU (P:Program) (E:St) (o:Oper):Root×List Nat×Nat:=GP (mA P E o) (OQ o).2.1
def rW (P:Program) (E:St) (o:Oper) (k sz:Nat):Bool:=ABk o&&(Sf P E o).isSome&&Nat.beq (uW P E o).length (P.cellsOf (OQ o).1)&&Nat.blt 0 (uW P E o).length&&Nat.ble (k+(uW P E o).length) sz
theorem ACb (hf:∀x,(f x).length=sz) (hx:gi l n=some x) (k:Nat) {r:Root} {c:Nat} {q:List Nat} {cs cs':List TV} (ho:rW P E o k sz=true) (hp:(mA P E o).ptr? (OQ o).2.1=some (r,c::q,n.toNat*sz+k)) (hr:(mA P E o).root r=some cs)
  (A:At cs (c::q) (Ah f l) (fun row=>setRow row (n.toNat*sz+k) (uW P E o)) cs'):BZ P N false E o=some (((mA P E o).setRoot r cs').bump r):=by
 simp only [rW,Aq]at ho;obtain⟨⟨⟨⟨a1,a2⟩,a3⟩,a4⟩,a5⟩:=ho;obtain⟨b1,b2⟩:=AAf a1;have ht:Sf P E o=some (uW P E o,mA P E o):=by
  unfold uW mA
  cases hh:Sf P E o with
  |none=>rw [hh]at a2;cases a2
  |some z=>rfl
 generalize hX:uW P E o=xs at*;generalize hE:mA P E o=E1 at*;unfold Sf at ht;split at ht
 ·rename_i s hs;have h0':0<xs.length:=by simpa [B3]using a4
  simp only [BZ,b2,b1,RM,hs,ht,hp,hr,A.c];rw [Az ⟨A.o,Bo a3,h0',ABq hf hx a5⟩,A5 (by simp),A.u]
 ·cases ht
def zL (E:St) (r:Root) (c:Nat) (row:List TV):List TV:=match E.root r with
 |some cs=>match cs[c]? with
  |some (.sl o e s _)=>cs.set c (.sl o e s row)
  |_=>cs
 |none=>[]
def Pk (E:St) (r:Root) (c:Nat):Option (List TV):=match E.root r with
 |some cs=>match cs[c]? with
  |some (.sl true e s row)=>some row
  |_=>none
 |none=>none
theorem Pj {r:Root} {c:Nat} {row:List TV} (h:Pk E r c=some row):∃cs e s,E.root r=some cs/\cs[c]?=some (.sl true e s row)/\∀row',zL E r c row'=cs.set c (.sl true e s row'):=by
 unfold Pk at h;unfold zL;split at h
 ·rename_i cs hr;split at h
  ·rename_i e s row' hc
   injection h with h
   subst h;exact⟨cs,e,s,hr,hc,fun row''=>by simp only [hc]⟩
  ·cases h
 ·cases h
theorem N1 (hf:∀x,(f x).length=sz) (hx:gi l n=some x) (k c:Nat) (z:α) (ho:rW P E o k sz=true:=by kernel_rfl) (hp:(mA P E o).ptr? (OQ o).2.1=some ((yU P E o).1,[c],n.toNat*sz+k):=by kernel_rfl) (hr:Pk (mA P E o) (yU P E o).1 c=some (Ah f l):=by kernel_rfl)
  (hz:setRow (f x) k (uW P E o)=f z:=by kernel_rfl):BZ P N false E o=some (((mA P E o).setRoot (yU P E o).1 (zL (mA P E o) (yU P E o).1 c (Ah f (si l n z)))).bump (yU P E o).1):=by
 obtain⟨cs,e,s,h1,h2,h3⟩:=Pj hr;refine ACb hf hx k ho hp h1 ?_;rw [h3];have hk:Nat.ble (k+(uW P E o).length) sz=true:=by
  simp only [rW,Aq]at ho;exact ho.2
 exact At.one (Sh hf hx hk hz) h2 rfl
theorem ACL {α':Type} {f':α'->List TV} {sz':Nat} {l':List α'} {n':Int} {x':α'} (hf:∀x,(f x).length=sz) (hx:gi l n=some x) (k c:Nat) (z:α) (hf':∀x,(f' x).length=sz') (hx':gi l' n'=some x') (k':Nat) (z':α') (ho:(rW P E o k sz&&Nat.blt k' sz')=true:=by kernel_rfl)
  (hp:(mA P E o).ptr? (OQ o).2.1=some ((yU P E o).1,[c,n'.toNat*sz'+k'],n.toNat*sz+k):=by kernel_rfl) (hr:Pk (mA P E o) (yU P E o).1 c=some (Ah f' l'):=by kernel_rfl)
  (hz:setRow (f x) k (uW P E o)=f z:=by kernel_rfl) {e s:Nat} (hc:(f' x')[k']?=some (.sl true e s (Ah f l)):=by rfl) (hc':(f' x').set k' (.sl true e s (Ah f (si l n z)))=f' z':=by rfl):BZ P N false E o=some (((mA P E o).setRoot (yU P E o).1 (zL (mA P E o) (yU P E o).1 c (Ah f' (si l' n' z')))).bump (yU P E o).1):=by
 obtain⟨cs,e1,s1,h1,h2,h3⟩:=Pj hr;rw [Aq]at ho;refine ACb hf hx k ho.1 hp h1 ?_;rw [h3];have hk:Nat.ble (k+(uW P E o).length) sz=true:=by
  have:=ho.1;simp only [rW,Aq]at this;exact this.2
 exact ACk hf' hx' (At.one (Sh hf hx hk hz) hc hc') ho.2 h2 rfl
end
theorem KB.o {P:Program} {N:Nat} {E:St} {ops:Array Oper} {i:Nat} {Q:Exit->St->Prop} {ts dn:List Nat} (mv:Bool) (h:KW P N ops ts (i::dn) ((BZ P N mv E (oA ops i)).getD E) Q) (hs:(BZ P N mv E (oA ops i)).isSome=true:=by kernel_rfl) (hk:(XY P ops E i&&(kp (oA ops i)||ts.contains i))=true:=by kernel_rfl):KB P N ops ts dn i E Q:=M5 (getD_some hs) h hk
def bits:Nat->List (TypeId×Operand)->List (Bool×TypeId×Operand)
 |_,[]=>[]
 |m,(t,x)::l=>(Nat.beq (m %2) 1,t,x)::bits (m/2) l
def kK (o:Oper):Nat:=match o.op with
 | .call c=>match c.callee with
  | .value (.func f)=>f
  |_=>0
 |_=>0
def Gp (o:Oper):List (TypeId×Operand):=match o.op with
 | .call c=>c.argTypes.toList.zip c.args.toList
 |_=>[]
def o8 (P:Program) (N:Nat) (o:Oper):Bool:=(match o.op with
 | .call c=>match c.callee with
  | .value (.func f)=>Nat.beq c.argTypes.size c.args.size&&(match P.funcs[f]? with
   | some fn => !(fn.name == "runtime.NumGoroutine") && !fn.body.isNone
   |none=>false)
  |_=>false
 |_=>false)&&(match o.dst with
 |some d=>Nat.blt d N
 |none=>true)
theorem N8:∀{l:List (TypeId×Operand)} {m:Nat},(bits m l).map (fun x=>x.2.2)=l.map Prod.snd
 |[],m=>rfl
 |(t,x)::l,m=>by simp only [bits,BT,N8]
theorem RO {P:Program} {N:Nat} {o:Oper} (h:o8 P N o=true):∃args tys,o.op= .call {callee:= .value (.func (kK o)),args:=args,argTypes:=tys}/\j8 P (kK o)/\(∀d,o.dst=some d->d<N)/\(Gp o).map Prod.snd=args.toList:=by
 simp only [o8,Aq]at h;obtain⟨h1,h2⟩:=h;have hN:∀d,o.dst=some d->d<N:=by
  intro d hd;rw [hd]at h2;simpa [B3]using h2
 unfold kK Gp;split at h1
 ·rename_i c hc;split at h1
  ·rename_i f a;rw [Aq]at h1;obtain⟨h3,h4⟩:=h1;split at h4
   ·rename_i fn b;simp only [Aq,Dq]at h4;obtain⟨callee,args,types⟩:=c;simp only at a h3;subst a;have hz:=Bo h3;refine⟨args,types,by simp only [hc],?_,hN,?_⟩
    ·exact⟨fn,b,by intro e;rw [e]at h4;simp at h4,h4.2⟩
    ·exact List.map_snd_zip (by simp [hz])
   ·cases h4
  ·cases h1
 ·cases h1
section
variable (P:Program) (E:St) (o:Oper) (m:Nat)
def mvA:Option (List (Option SV)×St):=Jq P E (bits m (Gp o))
def clE:St:=((mvA P E o m).map Prod.snd).getD E
def shA:Option (List AV×Bool):=match mvA P E o m with
 |some (ss,E1)=>Hq P E1 (bits m (Gp o)) ss
 |none=>none
def rY:Option (List AV):=(shA P E o m).map Prod.fst
def shB:Bool:=match shA P E o m with
 |some (_,b)=>b
 |none=>false
end
theorem xJ {P:Program} {E:St} {o:Oper} {m:Nat} {as:List AV} {res:SV} (h:rY P E o m=some as) (hc:shB P E o m=true\/BF res=false):Uo P E o.dst (bits m (Gp o)) as res ((clE P E o m).put o.dst res):=by
 unfold rY shB shA at*;unfold clE
 cases hm:mvA P E o m with
 |none=>rw [hm]at h;cases h
 |some z=>
  obtain⟨ss,E1⟩:=z;rw [hm]at h hc;simp only at h hc
  cases hs:Hq P E1 (bits m (Gp o)) ss with
  |none=>rw [hs]at h;cases h
  |some y=>
   obtain⟨as',c⟩:=y;rw [hs]at h hc;simp only [B8]at h hc
   injection h with h
   subst h;exact⟨ss,E1,c,hm,hs,hc,rfl⟩
theorem ca {γ:Type _} {a b:γ} {l l':List γ} (h:a=b) (k:l=l'):a::l=b::l':=by rw [h,k]
theorem cs {e sz:Nat} {a b:List TV} (h:BH a=b):TV.sl false e sz (BH a)= .sl false e sz b:=by rw [h]
theorem co {a b:TV} (h:a=b):AV.sv (.one a)= .sv (.one b):=by rw [h]
theorem fP {a b:List TV} (h:a=b):AV.sv (.agg a)= .sv (.agg b):=by rw [h]
section
variable {P:Program} {N:Nat} {E:St} {ops:Array Oper} {i:Nat} {Q:Exit->St->Prop} {α β:Type} {r:β} {ts dn:List Nat}
theorem RW.c {x:Option α} {kk:α->Option β} (m:Nat) (h:x.bind kk=some r) {enc:α->SV} {l:List AV} {n:Nat} (a:∀v,x=some v->Ba P (kK (oA ops i)) l (enc v) (List.replicate n .gone)) (hk:∀v,x=some v->kk v=some r->RW P N ops (i+1) ((clE P E (oA ops i) m).put (oA ops i).dst (enc v)) Q)
  (b:rY P E (oA ops i) m=some l:=by kernel_rfl) (hc:shB P E (oA ops i) m=true\/∀v,BF (enc v)=false:=by exact .inl (by kernel_rfl)) (ho:(XY P ops E i&&o8 P N (oA ops i))=true:=by kernel_rfl):RW P N ops i E Q:=by
 obtain⟨v,hv,h⟩:=Au.1 h;rw [Aq]at ho;obtain⟨h1,h2⟩:=I5 ho.1;obtain⟨args,tys,h3,h4,h5,h6⟩:=RO ho.2;unfold RW;rw [PS h1];exact A7.call h3 h4 h2 h5 (bits m (Gp (oA ops i))) (by rw [N8,h6]) (a v hv) (xJ b (hc.imp id (fun h=>h v))) (hk v hv h)
theorem KB.c {x:Option α} {kk:α->Option β} (m:Nat) (h:x.bind kk=some r) {enc:α->SV} {l:List AV} {n:Nat} (a:∀v,x=some v->Ba P (kK (oA ops i)) l (enc v) (List.replicate n .gone)) (hk:∀v,x=some v->kk v=some r->KW P N ops ts (i::dn) ((clE P E (oA ops i) m).put (oA ops i).dst (enc v)) Q)
  (b:rY P E (oA ops i) m=some l:=by kernel_rfl) (hc:shB P E (oA ops i) m=true\/∀v,BF (enc v)=false:=by exact .inl (by kernel_rfl)) (ho:(XY P ops E i&&o8 P N (oA ops i)&&((bits m (Gp (oA ops i))).all (fun x=>!x.1)||ts.contains i))=true:=by kernel_rfl):KB P N ops ts dn i E Q:=by
 obtain⟨v,hv,h⟩:=Au.1 h;simp only [Aq]at ho;obtain⟨h1,h2⟩:=I5 ho.1.1;obtain⟨args,tys,h3,h4,h5,h6⟩:=RO ho.1.2;exact DD.call i (HW h1) h3 h4 h2 h5 (bits m (Gp (oA ops i))) (by rw [N8,h6]) ho.2 (a v hv) (xJ b (hc.imp id (fun h=>h v))) (hk v hv h)
theorem gs {P:Program} {f:FuncId} {x:Option α} {enc:α->SV} {l l':List AV} {n:Nat} (e:l=l') (h:∀v,x=some v->Ba P f l' (enc v) (List.replicate n .gone)):∀v,x=some v->Ba P f l (enc v) (List.replicate n .gone):=e▸h
def xK (E:St) (o:Oper):Root:=match Gp o with
 |(_,x)::_=>(GP E x).1
 |[]=> .hand
def AAw (E:St) (o:Oper):Bool:=match Gp o with
 |(_,x)::_=>(match E.ptr? x with
  |some (r,[],0)=>r.mem
  |_=>false)
 |[]=>false
def cxA (P:Program) (E:St) (o:Oper):Option (List AV×Bool):=Hq P (E.without (xK E o)) (bits 0 (Gp o).tail) (List.replicate (bits 0 (Gp o).tail).length none)
def AAx (P:Program) (E:St) (o:Oper):Option (List AV):=(cxA P E o).map Prod.fst
def cxB (P:Program) (E:St) (o:Oper):Bool:=match cxA P E o with
 |some (_,b)=>b
 |none=>false
theorem AA0 {o:Oper} (h:AAw E o=true):∃t x l,Gp o=(t,x)::l/\E.ptr? x=some (xK E o,[],0)/\(xK E o).mem=true:=by
 unfold AAw at h;unfold xK;split at h
 ·rename_i t x l hl;split at h
  ·rename_i r hp;refine⟨t,x,l,hl,?_,?_⟩
   ·simp only [GP,hp,Bx]
   ·simpa only [GP,hp,Bx]using h
  ·cases h
 ·cases h
theorem xO {o:Oper} {as:List AV} {p:Prop} (h:AAx P E o=some as) (hc:cxB P E o=true\/p):∃c,Hq P (E.without (xK E o)) (bits 0 (Gp o).tail) (List.replicate (bits 0 (Gp o).tail).length none)=some (as,c)/\(c=true\/p):=by
 unfold AAx cxB at*
 cases hs:cxA P E o with
 |none=>rw [hs]at h;cases h
 |some y=>
  obtain⟨as',c⟩:=y;rw [hs]at h hc;simp only [B8]at h hc
  injection h with h
  subst h;exact⟨c,hs,hc⟩
theorem G6 {x:Option α} {kk:α->Option β} (h:x.bind kk=some r) {enc:α->SV} {fin:α->List TV} {cells:List TV} {l:List AV} {n:Nat} (d:∀v,x=some v->Ba P (kK (oA ops i)) (.ext cells::l) (enc v) (.ext (fin v)::List.replicate n .gone)) (b:∀v,(fin v).length=cells.length)
  (hk:∀v,x=some v->kk v=some r->RW P N ops (i+1) (((E.setRoot (xK E (oA ops i)) (fin v)).bump (xK E (oA ops i))).put (oA ops i).dst (enc v)) Q)
  (e:AAx P E (oA ops i)=some l:=by kernel_rfl) (hb:E.boxes (xK E (oA ops i))=some cells:=by kernel_rfl) (hc:cxB P E (oA ops i)=true\/∀v,BF (enc v)=false/\AX (fin v)=false:=by exact .inl (by kernel_rfl)) (ho:(XY P ops E i&&o8 P N (oA ops i)&&AAw E (oA ops i))=true:=by kernel_rfl):RW P N ops i E Q:=by
 obtain⟨v,hv,h⟩:=Au.1 h;simp only [Aq]at ho;obtain⟨h1,h2⟩:=I5 ho.1.1;obtain⟨args,tys,h3,h4,h5,h6⟩:=RO ho.1.2;obtain⟨t,x0,l0,h7,h8,h9⟩:=AA0 ho.2;obtain⟨c,h10,h11⟩:=xO e hc;unfold RW;rw [PS h1];intro w0 FA UA w a blk FS US hr hF hU;simp only [wpList,Cx hr h2,Cg];refine .inl (kO hr hF hU h3 h4 h5 (x:=x0) (l:=bits 0 (Gp (oA ops i)).tail) ?_ h9 h8 hb (b v) h10 (h11.imp id (fun h=>h v)) (d v hv) fun w' v' blk' FS' US' k1 k2 k3=>hk v hv h _ _ _ _ _ _ _ _ k1 k2 k3);rw [N8,<-h6,h7];rfl
theorem Zz {x:Option α} {kk:α->Option β} (h:x.bind kk=some r) {enc:α->SV} {fin:α->List TV} {cells:List TV} {l:List AV} {n:Nat} (d:∀v,x=some v->Ba P (kK (oA ops i)) (.ext cells::l) (enc v) (.ext (fin v)::List.replicate n .gone)) (b:∀v,(fin v).length=cells.length)
  (hk:∀v,x=some v->kk v=some r->KW P N ops ts (i::dn) (((E.setRoot (xK E (oA ops i)) (fin v)).bump (xK E (oA ops i))).put (oA ops i).dst (enc v)) Q)
  (e:AAx P E (oA ops i)=some l:=by kernel_rfl) (hb:E.boxes (xK E (oA ops i))=some cells:=by kernel_rfl) (hc:cxB P E (oA ops i)=true\/∀v,BF (enc v)=false/\AX (fin v)=false:=by exact .inl (by kernel_rfl)) (ho:(XY P ops E i&&o8 P N (oA ops i)&&AAw E (oA ops i)&&ts.contains i)=true:=by kernel_rfl):KB P N ops ts dn i E Q:=by
 obtain⟨v,hv,h⟩:=Au.1 h;simp only [Aq]at ho;obtain⟨h1,h2⟩:=I5 ho.1.1.1;obtain⟨args,tys,h3,h4,h5,h6⟩:=RO ho.1.1.2;obtain⟨t,x0,l0,h7,h8,h9⟩:=AA0 ho.1.2;obtain⟨c,h10,h11⟩:=xO e hc;intro w0 FA UA w a blk FS US hr hF hU;unfold wpOp;simp only [HW h1,Cx hr h2,Cg];refine .inl (kO hr hF hU h3 h4 h5 (x:=x0) (l:=bits 0 (Gp (oA ops i)).tail) ?_ h9 h8 hb (b v) h10 (h11.imp id (fun h=>h v)) (d v hv) fun w' v' blk' FS' US' k1 k2 k3=>⟨fun ht=>(by rw [ho.2]at ht;cases ht),_,_,_,_,hk v hv h,k1,k2,k3⟩);rw [N8,<-h6,h7];rfl
end
section
variable {P:Program} {N:Nat} {E:St} {Q:Exit->St->Prop} {ls ls2:List Nat} {bs bs2:List Root} {S V W:Type} {id:Nat}
theorem Ay {E':St} (hb:bs.all (fun r=>r.mem&&(E.boxes r).isSome)=true:=by kernel_rfl) (hn:Ml E ls bs=E':=by kernel_rfl):nt ls bs E E':=⟨hb,hn⟩
theorem wc {β:Type} {r:β} {c:Operand} {x y:Code} {tx ty:Option β} {b:Bool} (h:(bif b then tx else ty)=some r) (ht:tx=some r->Wp P N x E Q) (hf:ty=some r->Wp P N y E Q) (hc:E.cell1 P 0 c=some (.bool b):=by kernel_rfl):Wp P N (.cond c x y) E Q:=Wp.c h ht hf hc
theorem wt {c:Operand} {x y:Code} (ht:Wp P N x E Q) (hc:E.cell1 P 0 c=some (.bool true):=by kernel_rfl):Wp P N (.cond c x y) E Q:=ACg ht hc
theorem wf {c:Operand} {x y:Code} (hf:Wp P N y E Q) (hc:E.cell1 P 0 c=some (.bool false):=by kernel_rfl):Wp P N (.cond c x y) E Q:=AA3 hf hc
theorem BA {rs:List ResultVar} {res:SV} (h:(Gb P E rs).map (fun z=>He z.1)=some res):∃ss E',Gb P E rs=some (ss,E')/\He ss=res:=by
 obtain⟨z,h1,h2⟩:=AU.1 h;exact⟨z.1,z.2,h1,h2⟩
theorem sE {rs:List ResultVar} {res:SV} {cells:List TV} {rt:Root} (h:(Gb P E rs).map (fun z=>(He z.1,z.2.boxes rt))=some (res,some cells)):∃ss E',Gb P E rs=some (ss,E')/\He ss=res/\E'.boxes rt=some cells:=by
 obtain⟨z,h1,h2⟩:=AU.1 h
 injection h2 with h3 h4
 exact⟨z.1,z.2,h1,h3,h4⟩
end
theorem gkx {P:Program} {f:FuncId} {fn:Func} {c:Code} {cells cells':List TV} {as:List AV} {res:SV} {N:Nat} (hf:P.funcs[f]?=some fn) (hb:fn.body=some c) (hN:fn.ntmps=N)
 (h:Wp P N c (DV (.ext cells::as)) fun e E=>(e= .normal\/e= .ret)/\∃ss E',Gb P E fn.results.toList=some (ss,E')/\He ss=res/\E'.boxes (.ext 0)=some cells') (a:cells'.isEmpty=false:=by rfl):Ba P f (.ext cells::as) res (.ext cells'::List.replicate as.length .gone):=tL hf hb (by rw [hN];exact h) a
theorem gk {P:Program} {f:FuncId} {fn:Func} {c:Code} {as:List AV} {res:SV} {N:Nat} (hf:P.funcs[f]?=some fn) (hb:fn.body=some c) (hN:fn.ntmps=N)
 (h:Wp P N c (DV as) fun e E=>(e= .normal\/e= .ret)/\∃ss E',Gb P E fn.results.toList=some (ss,E')/\He ss=res):Ba P f as res (List.replicate as.length .gone):=j9 hf hb (by rw [hN];exact h)
end Go.TI
namespace Go.TI
open Go Go.RowKit
theorem mD:∀t:TV,(Lk t).isSl=t.isSl:=by intro t;cases t<;>rfl
theorem Ji:∀(cs:List TV) (j:Nat),(BH cs)[j]?=cs[j]?.map Lk
 |[],j=>by simp [BH]
 |t::ts,0=>by simp [BH]
 |t::ts,j+1=>by simpa [BH]using Ji ts j
theorem Tm:∀(q:List Nat) (cs:List TV),BO (BH cs) q=(BO cs q).map BH
 |[],cs=>rfl
 |c::q,cs=>by
  simp only [BO,Ji]
  cases cs[c]? with
  |none=>rfl
  |some t=>
   cases t with
   |sl o e sz cells=>exact Tm q cells
   |_=>rfl
def oV:TV->List TV->TV
 | .sl _ e s _,row=> .sl false e s row
 |t,_=>t
def Wt (cs:List TV) (j:Nat) (row:List TV):List TV:=match cs[j]? with
 |some t=>cs.set j (oV t row)
 |none=>cs
theorem eN {cs:List TV} {j e s:Nat} {row:List TV} (h:cs[j]?=some (.sl true e s row)) (c:Nat):(Wt cs j (BH row))[c]?=if c=j then some (.sl false e s (BH row))else cs[c]? :=by
 have hj:=(Aj.1 h).1;simp only [Wt,h,oV];rw [Cq];by_cases hc:j=c
 ·subst hc;simp [hj]
 ·rw [A5 hc,A5 (fun e=>hc e.symm)]
theorem wZ {cs:List TV} {j e s:Nat} {row:List TV} (h:cs[j]?=some (.sl true e s row)) {q:List Nat} {r1:List TV} (hq:BO cs q=some r1) (i:Nat):
  ∃r2,BO (Wt cs j (BH row)) q=some r2/\(r1[i]?.isSome=true->r2[i]?.isSome=true)/\(JF r1[i]?=true->JF r2[i]?=true):=by
 cases q with
 |nil=>
  simp only [BO]at hq
  injection hq with hq
  subst hq;refine⟨_,rfl,?_,?_⟩
  ·rw [eN h];split
   ·intro _;rfl
   ·exact id
  ·rw [eN h];split
   ·intro _;rfl
   ·exact id
 |cons c q=>
  simp only [BO,eN h];simp only [BO]at hq;by_cases hc:c=j
  ·subst hc;rw [h]at hq;simp only at hq;rw [Az rfl];simp only [Tm,hq,B8];refine⟨_,rfl,?_,?_⟩
   ·rw [Ji];simp
   ·rw [Ji]
    cases r1[i]? with
    |none=>exact id
    |some t=>simp only [JF,B8,mD];exact id
  ·rw [A5 hc];exact⟨r1,hq,id,id⟩
theorem VQ {w:World} {t':TV}:∀{ts:List TV} {vs:List Value} {F U:List Nat} {j:Nat} {t:TV},By w ts vs F U->ts[j]?=some t->F.Nodup->(∀v F1 U1,C9 w t v F1 U1->∃F2 U2,C9 w t' v F2 U2/\Ft F1 U1 F2 U2)->
  ∃F' U',By w (ts.set j t') vs F' U'/\Ft F U F' U'
 |[],vs,F,U,j,t,h,hj,_,_=>by simp at hj
 |x::ts,vs,F,U,0,t,h,hj,hn,hk=>by
  simp at hj;subst hj;simp only [By]at h;obtain⟨v,vs',F1,F2,U1,U2,rfl,rfl,rfl,h1,h2⟩:=h;obtain⟨F1',U1',a1,a2⟩:=hk v F1 U1 h1;exact⟨F1'++F2,U1'++U2,by simp only [D4,By];exact⟨v,vs',F1',F2,U1',U2,rfl,rfl,rfl,a1,h2⟩,LF hn a2 Ft.refl⟩
 |x::ts,vs,F,U,j+1,t,h,hj,hn,hk=>by
  simp only [By]at h;obtain⟨v,vs',F1,F2,U1,U2,rfl,rfl,rfl,h1,h2⟩:=h;obtain⟨F2',U2',a1,a2⟩:=VQ h2 (by simpa using hj) (Bn.1 hn).2.1 hk;exact⟨F1++F2',U1++U2',by simp only [L5,By];exact⟨v,vs',F1,F2',U1,U2',rfl,rfl,rfl,h1,a1⟩,LF hn Ft.refl a2⟩
theorem W2 {w:World} {a:Act} {E:St} {blk:Root->Nat} {t':TV}:∀{ts:List TV} {vs:List Value} {F U:List Nat} {j:Nat} {t:TV},CB w a E blk ts vs F U->ts[j]?=some t->F.Nodup->(∀v F1 U1,CN w a E blk t v F1 U1->∃F2 U2,CN w a E blk t' v F2 U2/\Ft F1 U1 F2 U2)->
  ∃F' U',CB w a E blk (ts.set j t') vs F' U'/\Ft F U F' U'
 |[],vs,F,U,j,t,h,hj,_,_=>by simp at hj
 |x::ts,vs,F,U,0,t,h,hj,hn,hk=>by
  simp at hj;subst hj;obtain⟨v,vs',F1,F2,U1,U2,rfl,rfl,rfl,h1,h2⟩:=h;obtain⟨F1',U1',a1,a2⟩:=hk v F1 U1 h1;exact⟨F1'++F2,U1'++U2,by rw [D4];exact⟨v,vs',F1',F2,U1',U2,rfl,rfl,rfl,a1,h2⟩,LF hn a2 Ft.refl⟩
 |x::ts,vs,F,U,j+1,t,h,hj,hn,hk=>by
  obtain⟨v,vs',F1,F2,U1,U2,rfl,rfl,rfl,h1,h2⟩:=h;obtain⟨F2',U2',a1,a2⟩:=W2 h2 (by simpa using hj) (Bn.1 hn).2.1 hk;exact⟨F1++F2',U1++U2',by rw [L5];exact⟨v,vs',F1,F2',U1,U2',rfl,rfl,rfl,h1,a1⟩,LF hn Ft.refl a2⟩
section
variable {w0:Base} {FA UA:List Nat} {N:Nat} {w:World} {a:Act} {E:St} {blk:Root->Nat} {FS US:Root->List Nat} {P:Program}
def frE (E:St) (r:Root) (j:Nat) (row:List TV):St:=match E.root r with
 |some cs=>E.setRoot r (Wt cs j row)
 |none=>E
theorem oU {r:Root} {cs:List TV} {j e s:Nat} {row:List TV} (hr:E.root r=some cs) (hj:cs[j]?=some (.sl true e s row)) (hh:r≠ .hand) (R:Root):Cn w w a a E (E.setRoot r (Wt cs j (BH row))) blk blk R:=by
 have c:(E.setRoot r (Wt cs j (BH row))).ver=E.ver:=by cases r<;>rfl
 have d:(E.setRoot r (Wt cs j (BH row))).gen=E.gen:=by cases r<;>rfl
 have f:(Wt cs j (BH row)).length=cs.length:=by simp [Wt,hj]
 have b:∀cs0,E.root R=some cs0->∃cs1,(E.setRoot r (Wt cs j (BH row))).root R=some cs1/\∀q r1,BO cs0 q=some r1->∀i:Nat,∃r2,BO cs1 q=some r2/\(r1[i]?.isSome=true->r2[i]?.isSome=true)/\(JF r1[i]?=true->JF r2[i]?=true):=by
  intro cs0 h0;by_cases hR:R=r
  ·subst hR;rw [hr]at h0
   injection h0 with h0
   subst h0;refine⟨Wt cs j (BH row),?_,fun q r1 hq i=>wZ hj hq i⟩
   cases R with
   |slot n=>
    simp only [St.root,St.setRoot,Cc,Cg]at hr⊢
    injection hr with hr
    congr 1
    cases hs:E.slots n with
    |one t=>
     rw [hs]at hr;simp only [SV.cells]at hr;subst hr;have:(Wt [t] j (BH row)).length=1:=f
     match hf:Wt [t] j (BH row),this with
     |[x],_=>rfl
    |agg ts=>rfl
    |tup ss=>
     rw [hs]at hr;simp only [SV.cells]at hr;subst hr;simp at hj
   |box n=>simp [St.root,St.setRoot,Cc]
   |ext n=>simp [St.root,St.setRoot,Cc]
   |hand=>exact absurd rfl hh
  ·refine⟨cs0,?_,fun q r1 hq i=>⟨r1,hq,id,id⟩⟩;rw [<-h0];cases r<;>cases R<;>simp only [St.root,St.setRoot,Cc]<;>first
    |exact absurd rfl hh
    |rfl
    |(rw [A5];intro e;exact hR (by rw [e]))
    |(rw [A5];intro e;injection e with e;exact hR (by rw [e]))
    |(rw [A5];intro e;cases e)
 constructor
 ·refine .inr ⟨by rw [c],fun q i v h1 h2=>⟨h1,?_⟩,fun q i ad hq h1 h2=>⟨h1,?_⟩⟩
  ·unfold St.place at h2⊢
   cases h0:E.root R with
   |none=>rw [h0]at h2;cases h2
   |some cs0=>
    rw [h0]at h2;obtain⟨cs1,k1,k2⟩:=b cs0 h0;simp only [Aa]at h2
    cases hc:BO cs0 q with
    |none=>rw [hc]at h2;cases h2
    |some r1=>
     rw [hc]at h2;obtain⟨r2,k3,_,k4⟩:=k2 q r1 hc i;rw [k1];simp only [Aa,k3];exact k4 h2
  ·unfold St.place at h2⊢
   cases h0:E.root R with
   |none=>rw [h0]at h2;cases h2
   |some cs0=>
    rw [h0]at h2;obtain⟨cs1,k1,k2⟩:=b cs0 h0;simp only [Aa]at h2
    cases hc:BO cs0 q with
    |none=>rw [hc]at h2;cases h2
    |some r1=>
     rw [hc]at h2;obtain⟨r2,k3,k4,_⟩:=k2 q r1 hc i;rw [k1];simp only [Aa,k3];exact k4 h2
 ·refine .inr ⟨by rw [d],fun i ad h1 h2=>⟨h1,?_⟩⟩;unfold St.place at h2⊢
  cases h0:E.root R with
  |none=>rw [h0]at h2;cases h2
  |some cs0=>
   rw [h0]at h2;obtain⟨cs1,k1,k2⟩:=b cs0 h0;simp only [Aa]at h2;obtain⟨r2,k3,k4,_⟩:=k2 [] cs0 rfl i;rw [k1];simp only [Aa,k3];exact k4 h2
theorem CF.freeze (h:CF w0 FA UA N w a E blk FS US) {r:Root} {cs:List TV} {j e s:Nat} {row:List TV} (hr:E.root r=some cs) (hj:cs[j]?=some (.sl true e s row)) (hh:r≠ .hand):
  ∃FS' US',CF w0 FA UA N w a (E.setRoot r (Wt cs j (BH row))) blk FS' US'/\FS' .hand=FS .hand/\US' .hand=US .hand:=by
 have p:=oU (w:=w) (a:=a) (blk:=blk) hr hj hh;have c:Wt cs j (BH row)=cs.set j (.sl false e s (BH row)):=by simp only [Wt,hj,oV]
 have g:∀v F1 U1,C9 w (.sl true e s row) v F1 U1->∃F2 U2,C9 w (.sl false e s (BH row)) v F2 U2/\Ft F1 U1 F2 U2:=fun v F1 U1 h1=>nP h1 (s8.s rfl)
 have u:∃F' U',Ft (FS r) (US r) F' U'/\(∀n,r= .slot n->EB w a (E.setRoot r (Wt cs j (BH row))) blk ((E.slots n).withCells (Wt cs j (BH row))) (a.eval (.tmp n)) F' U')/\
   (r.mem=true->∃cur T F,w.heap[blk r]?=some (.cells cur T (0,0))/\By w (Wt cs j (BH row)) cur.toList F U'/\F'=blk r::F):=by
  cases r with
  |slot n=>
   simp only [St.root]at hr
   injection hr with hr
   have hs:=Hj p (h.slot n) (fun _ _=>rfl) (fun _ _=>rfl)
   cases d:E.slots n with
   |one t=>
    rw [d]at hr hs;simp only [SV.cells]at hr;subst hr;have x:j=0:=by
     have:=(Aj.1 hj).1;simpa using this
    subst x;simp at hj;subst hj;simp only [EB]at hs;obtain⟨F2,U2,k1,k2⟩:=g _ _ _ hs.1;refine⟨F2,U2,k2,fun m hm=>?_,fun hm=>(by cases hm)⟩
    injection hm with hm
    subst hm;rw [d,c];simp only [D4,SV.withCells,EB];exact⟨k1,fun _=>hs.2 rfl⟩
   |agg ts=>
    rw [d]at hr hs;simp only [SV.cells]at hr;subst hr;simp only [EB]at hs;obtain⟨vs,k0,k1⟩:=hs;obtain⟨F2,U2,k2,k3⟩:=W2 (t':= .sl false e s (BH row)) k1 hj (h.nodup _) g;refine⟨F2,U2,k3,fun m hm=>?_,fun hm=>(by cases hm)⟩
    injection hm with hm
    subst hm;rw [d,c];simp only [SV.withCells,EB];rw [c]at k2;exact⟨vs,k0,k2⟩
   |tup ss=>
    rw [d]at hr;simp only [SV.cells]at hr;subst hr;simp at hj
  |hand=>exact absurd rfl hh
  |box n=>
   rcases h.box (.box n) rfl with⟨k,_⟩|⟨cs0,cur,T,F,k1,k2,k3,k4⟩
   ·simp only [St.root]at hr;rw [k]at hr;cases hr
   ·simp only [St.root]at hr;rw [k1]at hr
    injection hr with hr
    subst hr;have f:=h.nodup (.box n);rw [k4]at f;obtain⟨i,l⟩:=DU.1 f;obtain⟨F2,U2,k5,k6⟩:=VQ (t':= .sl false e s (BH row)) k3 hj l g;refine⟨blk (.box n)::F2,U2,?_,fun m hm=>(by cases hm),fun _=>⟨cur,T,F2,k2,by rw [c];exact k5,rfl⟩⟩;rw [k4];refine⟨k6.1.cons_cons _,fun b hb=>?_⟩
    rcases k6.2 b hb with q|⟨q1,q2⟩
    ·exact .inl q
    ·refine .inr ⟨by simp [q1],fun hc=>?_⟩
     rcases BL.1 hc with rfl|hc
     ·exact i q1
     ·exact q2 hc
  |ext n=>
   rcases h.box (.ext n) rfl with⟨k,_⟩|⟨cs0,cur,T,F,k1,k2,k3,k4⟩
   ·simp only [St.root]at hr;rw [k]at hr;cases hr
   ·simp only [St.root]at hr;rw [k1]at hr
    injection hr with hr
    subst hr;have f:=h.nodup (.ext n);rw [k4]at f;obtain⟨i,l⟩:=DU.1 f;obtain⟨F2,U2,k5,k6⟩:=VQ (t':= .sl false e s (BH row)) k3 hj l g;refine⟨blk (.ext n)::F2,U2,?_,fun m hm=>(by cases hm),fun _=>⟨cur,T,F2,k2,by rw [c];exact k5,rfl⟩⟩;rw [k4];refine⟨k6.1.cons_cons _,fun b hb=>?_⟩
    rcases k6.2 b hb with q|⟨q1,q2⟩
    ·exact .inl q
    ·refine .inr ⟨by simp [q1],fun hc=>?_⟩
     rcases BL.1 hc with rfl|hc
     ·exact i q1
     ·exact q2 hc
 obtain⟨F',U',hl,y,z⟩:=u
 have o:∀b∈F',b∈FS r:=fun b hb=>hl.1.subset hb
 refine⟨Cc FS r F',Cc US r U',?_,by rw [Bt (fun e=>hh e.symm)],by rw [Bt (fun e=>hh e.symm)]⟩;have hF:∀R b,b∈Cc FS r F' R->b∈FS R:=by
  intro R b hb;by_cases hR:R=r
  ·subst hR;rw [BQ]at hb;exact o b hb
  ·rw [Bt hR]at hb;exact hb
 have hU:∀R b,b∈Cc US r U' R->b∈US R\/(R=r/\b∈FS r/\b∉F'):=by
  intro R b hb;by_cases hR:R=r
  ·subst hR;rw [BQ]at hb
   rcases hl.2 b hb with q|⟨q1,q2⟩
   ·exact .inl q
   ·exact .inr ⟨rfl,q1,q2⟩
  ·rw [Bt hR]at hb;exact .inl hb
 constructor
 ·intro n;by_cases hn:r= .slot n
  ·subst hn;rw [BQ,BQ];have:=y n rfl;simpa only [St.setRoot,Cc,Cg]using this
  ·rw [Bt (fun e=>hn e.symm),Bt (fun e=>hn e.symm)];have h1:(E.setRoot r (Wt cs j (BH row))).slots n=E.slots n:=by
    cases r with
    |slot m=>
     simp only [St.setRoot,Cc];rw [A5];intro e;exact hn (by rw [e])
    |_=>rfl
   rw [h1];exact Hj p (h.slot n) (fun _ _=>rfl) (fun _ _=>rfl)
 ·intro R hm;by_cases hR:R=r
  ·subst hR;right;obtain⟨cur,T,F,k1,k2,k3⟩:=z hm;refine⟨_,cur,T,F,?_,k1,by rw [BQ];exact k2,by rw [BQ,k3]⟩
   cases R with
   |slot n=>cases hm
   |hand=>cases hm
   |box n=>simp [St.setRoot,Cc]
   |ext n=>simp [St.setRoot,Cc]
  ·rw [Bt hR,Bt hR];have h1:(E.setRoot r (Wt cs j (BH row))).boxes R=E.boxes R:=by
    cases r<;>simp only [St.setRoot,Cc]<;>first
     |rfl
     |(rw [A5 hR])
   rw [h1];exact h.box R hm
 ·have:(E.setRoot r (Wt cs j (BH row))).boxes .hand=E.boxes .hand:=by
   cases r<;>simp only [St.setRoot,Cc]<;>first
    |exact absurd rfl hh
    |rfl
    |(rw [A5 (by simp)])
  rw [this];exact h.nohand
 ·intro R;by_cases hR:R=r
  ·subst hR;rw [BQ];exact hl.1.nodup (h.nodup R)
  ·rw [Bt hR];exact h.nodup R
 ·exact fun R S h0 b hb hb'=>h.dis R S h0 b (hF R b hb) (hF S b hb')
 ·intro R S b hb hb'
  rcases hU S b hb' with q|⟨rfl,q1,q2⟩
  ·exact h.disU R S b (hF R b hb) q
  ·by_cases hR:R=S
   ·subst hR;rw [BQ]at hb;exact q2 hb
   ·exact h.dis R S hR b (hF R b hb) q1
 ·exact fun R b hb=>h.inF R b (hF R b hb)
 ·intro R b hb
  rcases hU R b hb with q|⟨rfl,q1,_⟩
  ·exact h.inU R b q
  ·obtain⟨q2,q3⟩:=h.inF R b q1;exact⟨.inr q2,q3⟩
 ·exact h.disA
 ·exact h.os
 ·exact h.tape
 ·exact h.output
 ·exact h.size
 ·exact h.keep
 ·exact h.len
 ·exact h.nodef
 ·exact h.xblk
 ·rw [F7];exact h.ambB
 ·rw [F7];exact h.ambI
 ·rw [Hs];exact h.frz
 ·exact h.ambF
end
section
variable {P:Program} {N:Nat} {E:St} {ops:Array Oper} {i m:Nat} {Q:Exit->St->Prop} {K:St->Prop} {ts dn:List Nat} {row row':List TV}
theorem xG {r:Root} {j:Nat} (h:Pk E r j=some row):∃cs e s,E.root r=some cs/\cs[j]?=some (.sl true e s row)/\frE E r j (BH row)=E.setRoot r (Wt cs j (BH row)):=by
 obtain⟨cs,e,s,h1,h2,_⟩:=Pj h;exact⟨cs,e,s,h1,h2,by unfold frE;rw [h1]⟩
def Ug:Root->Bool
 | .hand=>false
 |_=>true
theorem QB {r:Root} (h:Ug r=true):r≠ .hand:=by rintro rfl;cases h
theorem RW.fz (r:Root) (j:Nat) (hs:BH row=row') (h:RW P N ops i (frE E r j row') Q) (ho:Pk E r j=some row:=by kernel_rfl) (hh:Ug r=true:=by rfl):RW P N ops i E Q:=by
 intro w0 FA UA w a blk FS US hr hF hU;obtain⟨cs,e,s,h1,h2,h3⟩:=xG ho;obtain⟨FS',US',k1,k2,k3⟩:=hr.freeze h1 h2 (QB hh);rw [<-hs,h3]at h;exact h _ _ _ _ _ _ _ _ k1 (by rw [k2,hF]) (by rw [k3,hU])
theorem KW.fz (r:Root) (j:Nat) (hs:BH row=row') (h:KW P N ops ts dn (frE E r j row') Q) (ho:Pk E r j=some row:=by kernel_rfl) (hh:Ug r=true:=by rfl):KW P N ops ts dn E Q:=by
 intro hq hc w0 FA UA w a blk FS US hr hF hU;obtain⟨cs,e,s,h1,h2,h3⟩:=xG ho;obtain⟨FS',US',k1,k2,k3⟩:=hr.freeze h1 h2 (QB hh);rw [<-hs,h3]at h;exact h hq hc _ _ _ _ _ _ _ _ k1 (by rw [k2,hF]) (by rw [k3,hU])
theorem Wp.fz {c:Code} (r:Root) (j:Nat) (hs:BH row=row') (h:Wp P N c (frE E r j row') Q) (ho:Pk E r j=some row:=by kernel_rfl) (hh:Ug r=true:=by rfl):Wp P N c E Q:=by
 intro w0 FA UA w a blk FS US hr hF hU;obtain⟨cs,e,s,h1,h2,h3⟩:=xG ho;obtain⟨FS',US',k1,k2,k3⟩:=hr.freeze h1 h2 (QB hh);rw [<-hs,h3]at h;exact h _ _ _ _ _ _ _ _ k1 (by rw [k2,hF]) (by rw [k3,hU])
end
end Go.TI
namespace Go.TI
open Go Go.RowKit
def St.fzs (E:St) (f:Option Nat):St:={E with fz:=f}
section
variable {w0:Base} {FA UA:List Nat} {N:Nat} {w:World} {a:Act} {E:St} {blk:Root->Nat} {FS US:Root->List Nat} {P:Program}
theorem l9 {f:Option Nat} (r:Root):Cn w w a a E (E.fzs f) blk blk r:=by
 have hp:∀q j,(E.fzs f).place r q j=E.place r q j:=fun q j=>by cases r<;>rfl
 exact⟨.inr ⟨rfl,fun q j v h1 h2=>⟨h1,by rw [hp];exact h2⟩,fun q j ad _ h1 h2=>⟨h1,by rw [hp];exact h2⟩⟩,.inr ⟨rfl,fun j ad h1 h2=>⟨h1,by rw [hp];exact h2⟩⟩⟩
theorem CF.fzs (h:CF w0 FA UA N w a E blk FS US) (f:Option Nat) (hf:∀n,f=some n->yW w0 a n):CF w0 FA UA N w a (E.fzs f) blk FS US where
 slot:=fun n=>Hj l9 (h.slot n) (fun _ _=>rfl) (fun _ _=>rfl)
 box:=h.box
 nohand:=h.nohand
 nodup:=h.nodup
 dis:=h.dis
 disU:=h.disU
 inF:=h.inF
 inU:=h.inU
 disA:=h.disA
 os:=h.os
 tape:=h.tape
 output:=h.output
 size:=h.size
 keep:=h.keep
 len:=h.len
 nodef:=h.nodef
 xblk:=h.xblk
 ambB:=h.ambB
 ambI:=h.ambI
 frz:=hf
 ambF:=h.ambF
theorem qQ (n:Nat):(2*n+1)/2=n:=by omega
theorem qP (n:Nat):¬(2*n+1) %2=0:=by omega
def AAn (o:Oper):Bool:=match o.op with
 | .buildSlice t len parts=>Nat.beq len 0&&Nat.beq parts.size 0
 |_=>false
theorem ABc {o:Oper} {E':St} {d:Nat} (hb:AAn o=true) (hd:o.dst=some d) (hN:d<N) (hs:BZ P N false E o=some E') {nx:Next} {w':World} (hr:(execOp a.eval o).run P w= .ok nx w'):∃B,nx= .value (.slice B 0 0):=by
 unfold AAn at hb;split at hb
 ·rename_i t len parts ho;rw [Aq]at hb;have h1:=Bo hb.1;have h2:=Bo hb.2;subst h1;have h3:parts= #[]:=Array.eq_empty_of_size_eq_zero h2;subst h3;simp only [BZ,hd,Az hN,ho,Ky]at hs;split at hs
  ·rename_i e hu;split at hs
   ·rename_i zs ss hz b;obtain⟨i,z,hi,c,f,g⟩:=IC (w:=w) hz;simp [execOp,ho,Instr.buildSlice,run_underlying hu,sizeOf,typeInfo,hi,newRow,Instr.fill]at hr;obtain⟨hr,_⟩:=hr;exact⟨_,hr.symm⟩
   ·cases hs
  ·cases hs
 ·cases hb
end
section
variable {P:Program} {N:Nat} {E:St} {ops:Array Oper} {i:Nat} {Q:Exit->St->Prop} {ts dn:List Nat}
def uX (x:Operand):Nat:=match x with
 | .tmp n=>n
 |_=>0
theorem pM (h:KW P N ops ts (i::dn) (((BZ P N false E (oA ops i)).getD E).fzs (some (2*((oA ops i).dst.getD 0)+1))) Q) (hs:(BZ P N false E (oA ops i)).isSome=true:=by kernel_rfl) (hk:(XY P ops E i&&AAn (oA ops i)&&HC N (oA ops i))=true:=by kernel_rfl):KB P N ops ts dn i E Q:=by
 have hs':=getD_some (a:=E) hs;generalize hE:(BZ P N false E (oA ops i)).getD E=E' at h hs';simp only [Aq]at hk;obtain⟨h1,h2⟩:=I5 hk.1.1;obtain⟨d,h3,_,h4⟩:=Fg hk.2;rw [h3]at h;simp only [Bx]at h;have b:kp (oA ops i)=true:=by
  have:=hk.1.2;unfold AAn at this;unfold kp;split at this
  ·rename_i ho;rw [ho]
  ·cases this
 intro w0 FA UA w a blk FS US hr hF hU;unfold wpOp;simp only [HW h1,Cx hr h2,Cg];obtain⟨nx,w',v,blk',FS',US',k1,k2,k3,k4,k5,k6⟩:=OP hr hF hU hs';obtain⟨B,hB⟩:=ABc (N:=N) hk.1.2 h3 h4 hs' k1;have hv:v= .slice B 0 0:=by
  rcases k2 with k2|⟨k2,_⟩
  ·rw [hB]at k2;injection k2 with k2;exact k2.symm
  ·rw [hB]at k2;cases k2
 refine .inl ?_;unfold Oper.wp;rw [k1,hB];refine⟨fun _=>k6 b,_,blk',FS',US',h,?_,k4,k5⟩;rw [hv]at k3;refine k3.fzs _ (fun n hn=>?_)
 injection hn with hn
 subst hn;unfold yW;rw [A5 (qP d),qQ d,h3];refine⟨B,?_⟩;have:=k3.len;simp only [Act.eval,Act.put];rw [Ec];have hl:=hr.len;have c:d<a.tmps.size:=Bl h4 hl;simp [Array.getElem?_setIfInBounds_self,c]
theorem fI {E':St} (hs:BZ P N false E (oA ops i)=some E') (h:KW P N ops ts (i::dn) (E'.fzs none) Q) (hk:(XY P ops E i&&wQ (oA ops i)&&Nat.beq (El (oA ops i)).1 (El (oA ops i)).2.1&&HC N (oA ops i))=true:=by kernel_rfl) (hx:(El (oA ops i)).2.2.1= .tmp (uX (El (oA ops i)).2.2.1):=by kernel_rfl) (hz:E.fz=some (2*uX (El (oA ops i)).2.2.1+1):=by kernel_rfl):KB P N ops ts dn i E Q:=by
 simp only [Aq]at hk;obtain⟨⟨⟨h0,h5⟩,h6⟩,h7⟩:=hk;obtain⟨h1,h2⟩:=I5 h0;obtain⟨d,h3,_,h4⟩:=Fg h7;have c:=Bo h6;have ho:=dE h5;rw [<-c]at ho;intro w0 FA UA w a blk FS US hr hF hU;unfold wpOp;simp only [HW h1,Cx hr h2,Cg];have he:Ke P E d (El (oA ops i)).1 (El (oA ops i)).2.2.1 (El (oA ops i)).2.2.2=some E':=by
  unfold BZ at hs;rw [h3]at hs;simpa only [Az h4,ho,Cg]using hs
 obtain⟨nx,w',v,blk',FS',US',k1,k2,k3,k4,k5,_,k6⟩:=RZ hr hF hU ho h3 h4 he;have b:=hr.frz _ hz;unfold yW at b;rw [A5 (qP _),qQ,<-hx]at b;obtain⟨B,hB⟩:=b;refine .inl ?_;unfold Oper.wp;rw [k1]
 rcases k2 with rfl|⟨rfl,rfl⟩
 ·exact⟨fun _=>k6 B hB,_,blk',FS',US',h,k3.fzs none (fun n hn=>by cases hn),k4,k5⟩
 ·exact⟨fun _=>k6 B hB,_,blk',FS',US',h,k3.fzs none (fun n hn=>by cases hn),k4,k5⟩
end
end Go.TI
namespace Go.TI
open Go Go.RowKit
def rm (k:IntKind) (a b:Int):Option Int:=if b=0 then none else some (a.tmod b)
def ban (k:IntKind) (a b:Int):Int:=k.wrap (BitVec.ofInt k.bits a&&&BitVec.ofInt k.bits b).toNat
def bxo (k:IntKind) (a b:Int):Int:=k.wrap (BitVec.ofInt k.bits a^^^BitVec.ofInt k.bits b).toNat
section
variable {P:Program} {E:St} {o:Oper}
def AAO (P:Program) (E:St) (o:Oper) (k:IntKind) (q:Bool):Option (Int×Int):=match o.op with
 | .binOp op t x y _=>bif(match op with| .rem=>!q| .quo=>q|_=>false)then(match E.cell1 P t x,E.cell1 P t y with
  |some (.int k' a),some (.int k'' b)=>bif decide (k'=k)&&decide (k''=k)then some (a,b)else none
  |_,_=>none)else none
 |_=>none
theorem prm {k:IntKind} {a b v:Int} (hx:rm k a b=some v) (hc:AAO P E o k false=some (a,b):=by kernel_rfl):Bj P E o=some (.one (.int k v)):=by
 unfold AAO at hc;split at hc
 ·rename_i op t x y t' ho;cases op<;>simp only [Bk,Ag,Ae,reduceCtorEq]at hc;split at hc
  ·rename_i k' a' k2 b' h1 h2
   cases hk:(decide (k'=k)&&decide (k2=k))with
   |false=>rw [hk]at hc;cases hc
   |true=>
    rw [hk]at hc;simp only [Ag]at hc
    injection hc with hc
    injection hc with hc1 hc2
    rw [Aq]at hk;have e1:=IY hk.1;have e2:=IY hk.2;subst hc1 hc2 e1 e2;unfold rm at hx;split at hx
    ·cases hx
    ·rename_i hb
     injection hx with hx
     subst hx;simp only [Bj,ho,h1,h2,SB,Cg,Tq,wR,A5 hb,B8]
  ·cases hc
 ·cases hc
end
def fJ (P:Program) (f:FuncId) (as:List AV) (cells:List TV):Prop:=
 ∀(w:World) (vs:List Value) (FA UA:List Nat),Ir w as vs FA UA->FA.Nodup->(∀b∈FA,b∉UA)->(∀b∈FA++UA,b<w.heap.size)->
  Calls P f vs.toArray w fun e w'=>∃v F U G V,e= .returned v/\Yy w w' FA UA (.tup []) [.ext cells] [v] (.tuple #[]) F U G V
theorem gkp {P:Program} {f:FuncId} {fn:Func} {c:Code} {as:List AV} {cells:List TV} {N:Nat} (hf:P.funcs[f]?=some fn) (hb:fn.body=some c) (hN:fn.ntmps=N)
  (h:Wp P N c (DV as) fun e E=>(e= .normal\/e= .ret)/\∃t r,fn.results.toList=[.tmp t]/\E.ptr? (.tmp t)=some (r,[],0)/\r.mem=true/\E.boxes r=some cells) (k:cells.isEmpty=false:=by rfl):fJ P f as cells:=by
 subst hN;intro w vs FA UA ha l i m;obtain⟨blk,FS,US,hr,hF,hU⟩:=NB (N:=fn.ntmps) ha l i m (A:=Ig.none) (fz:=none) trivial (fun b hb=>by cases hb);refine calls_of_wp hf hb (wp_mono (h _ _ _ _ _ _ _ _ hr hF hU) ?_);rintro e a w' ⟨E,blk',FS',US',⟨he,t,r,h1,h2,h3,h4⟩,k3,h5,h6⟩;obtain⟨s,ad,d,o⟩:=Lz k3 h2;have p:ad=⟨blk' r,0,none⟩:=by
  cases r with
  |slot n=>cases h3
  |hand=>cases h3
  |box n=>simp only [pa]at d;injection d with d;rw [<-d];simp [Addr.add]
  |ext n=>simp only [pa]at d;injection d with d;rw [<-d];simp [Addr.add]
 obtain⟨cur,T,F3,b2,b3,b4⟩:∃cur T F3,w'.heap[blk' r]?=some (.cells cur T (0,0))/\By w' cells cur.toList F3 (US' r)/\FS' r=blk' r::F3:=by
  rcases k3.box r h3 with⟨q,_⟩|⟨cs,cur,T,F3,q1,q2,q3,q4⟩
  ·rw [h4]at q;cases q
  ·rw [h4]at q1
   injection q1 with q1
   subst q1;exact⟨cur,T,F3,q2,q3,q4⟩
 have hne':cells≠ []:=by rintro rfl;cases k
 have j:(fn.results.toList.mapM (MX P a.tmps)).run P w'= .ok [a.eval (.tmp t)] w':=by
  rw [h1,List.mapM_cons];simp [MX,Act.eval]
 have g:a.defers=[]/\∃v,(results fn a.tmps).run P w'= .ok v w'/\∃v' F U G V,Ending.returned v= .returned v'/\Yy w w' FA UA (.tup []) [.ext cells] [v'] (.tuple #[]) F U G V:=by
  refine⟨k3.nodef,_,KG j,a.eval (.tmp t),[],[],FS' r,US' r,by simp,?_⟩
  exact{
   res:=by simp only [PX];exact⟨[],rfl,by simp [LM]⟩
   fin:=⟨_,[],FS' r,[],US' r,[],rfl,by simp,by simp,⟨blk' r,cur,T,F3,by rw [o,p],b2,b3,b4,hne'⟩,⟨rfl,rfl,rfl⟩⟩
   nodup:=by simpa using k3.nodup r
   dis:=fun b hb hb'=>k3.disU r r b (by simpa using hb) (by simpa using hb')
   inF:=fun b hb=>k3.inF r b (by simpa using hb)
   inU:=fun b hb=>k3.inU r b (by simpa using hb)
   os:=k3.os
   tape:=k3.tape
   output:=k3.output
   size:=k3.size
   keep:=fun b hb hF=>k3.keep b hb hF (fun e=>by cases e)}
 rcases he with rfl|rfl
 ·exact g
 ·exact g
section
variable {w0:Base} {FA UA:List Nat} {N:Nat} {w:World} {a:Act} {E:St} {blk:Root->Nat} {FS US:Root->List Nat} {P:Program}
theorem yA (h:CF w0 FA UA N w a E blk FS US) (hF:FS .hand=[]) (hU:US .hand=[]) {o:Oper} {f:FuncId} {args:Array Operand} {tys:Array TypeId} (ho:o.op= .call {callee:= .value (.func f),args:=args,argTypes:=tys}) (hf:j8 P f)
  {d:Nat} (hd:o.dst=some d) (hN:d<N) {l:List (Bool×TypeId×Operand)} (hl:l.map (fun x=>x.2.2)=args.toList) {as:List AV} {cells:List TV} (hg:fJ P f as cells) {ss:List (Option SV)} {E1:St} {c:Bool} (h1:Jq P E l=some (ss,E1)) (h2:Hq P E1 l ss=some (as,c)) (h3:c=true\/AX cells=false)
  {K:Act->World->Prop} {Q:Exit->Act->World->Prop} (hK:∀w' v blk' FS' US',CF w0 FA UA N w' (a.put (some d) v) (E1.newBox d cells) blk' FS' US'->FS' .hand=[]->US' .hand=[]->K (a.put (some d) v) w'):o.wp P a w K Q:=by
 obtain⟨FS1,US1,F,U,k1,k2,k3,k4,_⟩:=Oe h h1;rw [hF,A6]at k3;rw [hU,A6]at k4;obtain⟨U',k5,k6⟩:=JJ k2 k1 h2;have h9:l.map (fun x=>a.eval x.2.2)=(args.map a.eval).toList:=by
  rw [ND,<-hl,Ep];rfl
 rw [h9]at k5;have m:∀b∈F,b∉U':=by
  intro b hb hb';rw [<-k3]at hb
  rcases k6 b hb' with h4|⟨r,h4⟩|⟨_,r,h5,h4⟩
  ·rw [<-k4]at h4;exact k2.disU .hand .hand b hb h4
  ·exact k2.disU .hand r b hb h4
  ·exact k2.dis .hand r (EC h5) b hb h4
 have j:=hg w _ F U' k5 (by rw [<-k3];exact k2.nodup .hand) m (by
  intro b hb
  rcases Al.1 hb with hb|hb
  ·exact(k2.inF .hand b (by rw [k3];exact hb)).2
  ·rcases k6 b hb with h4|⟨r,h4⟩|⟨_,r,h5,h4⟩
   ·exact(k2.inU .hand b (by rw [k4];exact h4)).2
   ·exact(k2.inU r b h4).2
   ·exact(k2.inF r b h4).2)
 unfold Oper.wp;rw [KH ho hf];simp only [Oper.upon];rw [O5]at j;refine Calls.mono j ?_;rintro e w' ⟨v,Fr,Ur,G,V,rfl,g⟩;obtain⟨v0,vs0,G1,G2,V1,V2,p,rfl,rfl,⟨b0,cur,T,F0,rfl,e1,e2,rfl,e3⟩,⟨rfl,rfl,rfl⟩⟩:=g.fin
 injection p with p _
 subst p;have u:=g.res;simp only [PX,LM]at u;obtain⟨_,_,_,rfl,rfl⟩:=u;have y:=g.nodup;simp only [A6,Aw]at y;have a0:∀b∈b0::F0,(b∈FS1 .hand\/w.heap.size<=b)/\b<w'.heap.size:=by
  intro b hb;have:=g.inF b (by simpa using hb);rw [k3];exact this
 have z:∀b∈V1,(∃s,b∈US1 s)\/((b∈FS1 .hand\/w.heap.size<=b)/\b∉b0::F0/\b<w'.heap.size):=by
  intro b hb;obtain⟨h4,h5⟩:=g.inU b (by simpa using hb)
  have k:b∉b0::F0:=fun e=>g.dis b (by simpa using e) (by simpa using hb)
  rcases h4 with h4|h4|h4
  ·rcases k6 b h4 with h6|h6|⟨h6,r,h7,h8⟩
   ·exact .inl ⟨.hand,by rw [k4];exact h6⟩
   ·exact .inl h6
   ·rcases h3 with h3|h3
    ·rw [h3]at h6;cases h6
    ·have:=Jp e2 h3;subst this;cases hb
  ·exact .inr ⟨.inl (by rw [k3];exact h4),k,h5⟩
  ·exact .inr ⟨.inr h4,k,h5⟩
 have i:∀b,b<w.heap.size->b∉FS1 .hand->w'.heap[b]?=w.heap[b]? :=fun b hb t=>g.keep b hb (by rw [<-k3];exact t)
 let E2:St:={E1 with boxes:=Cc E1.boxes (.box d) (some cells),ver:=Cc E1.ver (.box d) (E1.ver (.box d)+1),gen:=Cc E1.gen (.box d) (E1.gen (.box d)+1)}
 let blk1:=Cc blk (.box d) b0
 have a1:Root.box d≠Root.hand:=by simp
 have a2:∀s,Cn w w' a a E1 E2 blk blk1 s:=by
  intro s;by_cases hs:s= .box d
  ·subst hs;exact⟨.inl (by simp [E2,Cc]),.inl (by simp [E2,Cc])⟩
  ·have hv:E2.ver s=E1.ver s:=by simp [E2,Cc,hs]
   have hg:E2.gen s=E1.gen s:=by simp [E2,Cc,hs]
   by_cases hh:s= .hand
   ·subst hh;exact Gy hv hg (by simp [St.root,k2.nohand])
   ·refine Ed k2 hv hg ?_ (fun _ _=>rfl) (fun _=>by simp [blk1,Cc,hs]) (fun b hb=>i b (k2.inF s b hb).2 (k2.dis s .hand hh b hb)) (fun b hb=>i b (k2.inU s b hb).2 (fun e=>k2.disU .hand s b e hb));cases s<;>simp_all [E2,St.root,Cc]
 have g1:=k2.two (w':=w') (a':=a) (E':=E2) (blk':=blk1) (r1:= .box d) (r2:= .hand) (L1:=b0::F0) (L2:=[]) (V1:=V1) (V2:=[]) a1
  (by simpa using y)
  (fun b hb=>by
   have hb':b∈b0::F0:=by simpa using hb
   obtain⟨q1,q2⟩:=a0 b hb'
   exact⟨.inr q1,q2⟩)
  (fun b hb=>by
   have hb':b∈V1:=by simpa using hb
   rcases z b hb' with q|⟨q1,q2,q3⟩
   ·exact .inl q
   ·exact .inr ⟨.inr q1,by simpa using q2,q3⟩)
  g.size g.os g.tape g.output (fun b hb _ t=>i b hb t) a2
  (fun n _ _=>⟨rfl,rfl⟩)
  (fun s _ hs _=>⟨by simp [E2,Cc,hs],by simp [blk1,Cc,hs]⟩)
  (.inr ⟨cells,cur,T,F0,by simp [E2,Cc],by simp [blk1,Cc,e1],e2,by simp [blk1,Cc]⟩)
  trivial (by simp [E2,Cc,k2.nohand]) k2.len k2.nodef (hfz:=fun n hn=>k2.frz n hn)
 have a3:EB w' a E2 blk1 (.one (.ptr (.box d) (E2.gen (.box d)) [] 0)) (.pointer (some ⟨b0,0,none⟩)) [] []:=by
  have h0:E2.stamp (.box d) []=E2.gen (.box d):=rfl;rw [<-h0];refine Rz ?_ ?_
  ·cases hc:cells with
   |nil=>exact absurd hc e3
   |cons x xs=>simp [St.place,St.root,E2,Cc,BO,hc]
  ·simp [pa,blk1,Cc,Addr.add]
 have g2:=g1.put (d:=d) hN a3 Y0.none;have:=hK w' _ blk1 _ _ g2 (by rw [Bt (by simp),BQ]) (by rw [Bt (by simp),BQ]);rw [hd];exact this
end
section
variable {P:Program} {N:Nat} {E:St} {ops:Array Oper} {i:Nat} {Q:Exit->St->Prop} {α β:Type} {r:β}
theorem ACh {x:Option α} {kk:α->Option β} (h:x.bind kk=some r) {cells:α->List TV} {l:List AV} (f:∀v,x=some v->fJ P (kK (oA ops i)) l (cells v)) (hk:∀v,x=some v->kk v=some r->RW P N ops (i+1) ((clE P E (oA ops i) 0).newBox ((oA ops i).dst.getD 0) (cells v)) Q)
  (b:rY P E (oA ops i) 0=some l:=by kernel_rfl) (hc:shB P E (oA ops i) 0=true:=by kernel_rfl) (ho:(XY P ops E i&&o8 P N (oA ops i)&&HC N (oA ops i))=true:=by kernel_rfl):RW P N ops i E Q:=by
 obtain⟨v,hv,h⟩:=Au.1 h;simp only [Aq]at ho;obtain⟨h1,h2⟩:=I5 ho.1.1;obtain⟨args,tys,h3,h4,h5,h6⟩:=RO ho.1.2;obtain⟨d,h7,_,h8⟩:=Fg ho.2;have e:=hk v hv h;rw [h7]at e;simp only [Bx]at e;unfold RW;rw [PS h1];intro w0 FA UA w a blk FS US hr hF hU;simp only [wpList,Cx hr h2,Cg];unfold rY shB shA at*;unfold clE at e
 cases hm:mvA P E (oA ops i) 0 with
 |none=>rw [hm]at b;cases b
 |some z=>
  obtain⟨ss,E1⟩:=z;rw [hm]at b hc e;simp only at b hc e
  cases hs:Hq P E1 (bits 0 (Gp (oA ops i))) ss with
  |none=>rw [hs]at b;cases b
  |some y=>
   obtain⟨as',c⟩:=y;rw [hs]at b hc;simp only [B8]at b hc
   injection b with b
   subst b;refine .inl (yA hr hF hU h3 h4 h7 h8 (l:=bits 0 (Gp (oA ops i))) (by rw [N8,h6]) (f v hv) hm hs (.inl hc) fun w' v' blk' FS' US' k1 k2 k3=>e _ _ _ _ _ _ _ _ k1 k2 k3)
end
theorem rsp {E:St} {rs:List ResultVar} {cells:List TV} (t:Nat) (h1:rs=[.tmp t]) (h:(match E.ptr? (.tmp t)with
  |some (r,[],0)=>bif r.mem then E.boxes r else none
  |_=>none)=some cells):∃t r,rs=[.tmp t]/\E.ptr? (.tmp t)=some (r,[],0)/\r.mem=true/\E.boxes r=some cells:=by
 split at h
 ·rename_i r hr
  cases hm:r.mem with
  |false=>rw [hm]at h;cases h
  |true=>rw [hm]at h;exact⟨t,r,h1,hr,hm,h⟩
 ·cases h
end Go.TI
namespace Go.TI
open Go Go.RowKit
def xtE (N:Nat) (E:St) (o:Oper):Option St:=match o.op,o.dst with
 | .extract t ix,some d=>bif Nat.blt d N then Mt E d t ix else none
 |_,_=>none
section
variable {w0:Base} {FA UA:List Nat} {N:Nat} {w:World} {a:Act} {E:St} {blk:Root->Nat} {FS US:Root->List Nat} {P:Program}
theorem AA7 (h:CF w0 FA UA N w a E blk FS US) (hF:FS .hand=[]) (hU:US .hand=[]) {o:Oper} {E':St} (he:xtE N E o=some E'):
  ∃v blk' FS' US',(∀w2,(execOp a.eval o).run P w2= .ok (.value v) w2)/\CF w0 FA UA N w (a.put o.dst v) E' blk' FS' US'/\FS' .hand=[]/\US' .hand=[]:=by
 unfold xtE at he;split at he
 ·rename_i t ix d ho hd
  cases hN:Nat.blt d N with
  |false=>rw [hN]at he;cases he
  |true=>
   rw [hN]at he;simp only [Ag]at he;have hN':d<N:=by simpa [B3]using hN
   obtain⟨nx,w',v,blk',FS',US',k1,k2,k3,k4,k5,_⟩:=Ei.extract (P:=P) h hF hU ho hd hN' he;have b:∃x,∀w2,(execOp a.eval o).run P w2= .ok (.value x) w2:=by
    unfold Mt at he;split at he
    ·rename_i n;split at he
     ·rename_i ss c;split at he
      ·rename_i s e;have hs:=h.slot n;rw [c]at hs;simp only [EB]at hs;obtain⟨vs,f,hx⟩:=hs;obtain⟨v,A,B,C,D,F1,U1,h1,h2,h3,h4,h5⟩:=UF ix hx e;exact⟨v,fun w2=>by simp [execOp,ho,Instr.extract,f,h1]⟩
      ·cases he
     ·cases he
    ·cases he
   obtain⟨x,hx⟩:=b;rw [hx w]at k1
   injection k1 with q1 q2
   subst q1 q2
   rcases k2 with k2|⟨k2,_⟩
   ·injection k2 with k2
    subst k2;exact⟨_,blk',FS',US',hx,k3,k4,k5⟩
   ·cases k2
 ·cases he
end
section
variable {P:Program} {N:Nat} {E:St} {ops:Array Oper} {i m:Nat} {Q:Exit->St->Prop} {K:St->Prop} {ts dn:List Nat}
theorem Jx (i:Nat) (h:KW P N ops ts (i::dn) ((xtE N E (oA ops i)).getD E) Q) (hs:(xtE N E (oA ops i)).isSome=true:=by kernel_rfl) (hk:(XY P ops E i&&rP ops ts dn i)=true:=by kernel_rfl):KW P N ops ts dn E Q:=by
 have hs':=getD_some (a:=E) hs;generalize hE:(xtE N E (oA ops i)).getD E=E' at h hs';simp only [Aq,rP]at hk;obtain⟨h1,h3,h4⟩:=hk;obtain⟨h5,h6⟩:=I5 h1;unfold KW at h⊢;rw [R7 (i:=i) h3];intro hQ hc w0 FA UA w a blk FS US k1 k2 k3;obtain⟨e1,e2,e3,e4,e5⟩:=RJ h4;obtain⟨v,blk',FS',US',g1,g2,g3,g4⟩:=AA7 (P:=P) k1 k2 k3 hs';refine Lr (v:=v) (n:=ops.size) (HW h5) (Region.noSelect_spec e1) (fun c a w hx=>?_) e4 e5 _ _ a w hc (Region.free_spec (HW h5) e2) e3 (.inl ⟨Cx k1 h6,fun w2 _=>g1 w2⟩) ?_
 ·obtain⟨E',blk',FS',US',m1,_⟩:=hx;exact(hQ c E' m1).elim
 ·exact h hQ (Kg hc e3) _ _ _ _ _ _ _ _ g2 g3 g4
def fD (P:Program) (E:St) (o:Oper) (s:SV):Prop:=∀(N:Nat) (w0:Base) (FA UA:List Nat) (w:World) (a:Act) (blk:Root->Nat) (FS US:Root->List Nat),CF w0 FA UA N w a E blk FS US->EH P w a E blk FS US o s
theorem ACR {s:SV} (hp:fD P E (oA ops i) s) (h:RW P N ops (i+1) (E.put (oA ops i).dst s) Q) (hk:(XY P ops E i&&HC N (oA ops i))=true:=by kernel_rfl):RW P N ops i E Q:=by
 rw [Aq]at hk;obtain⟨h1,h2⟩:=I5 hk.1;obtain⟨d,h3,_,h4⟩:=Fg hk.2;rw [h3]at h;unfold RW;rw [PS h1];intro w0 FA UA w a blk FS US hr hF hU;simp only [wpList,Cx hr h2,Cg];exact .inl ((Ko hr hF hU (hp _ _ _ _ _ _ _ _ _ hr) h3 h4).wp fun w' v blk' FS' US' k1 k2 k3 _=>h _ _ _ _ _ _ _ _ k1 k2 k3)
theorem ADb {s:SV} (hp:fD P E (oA ops i) s) (h:SW P N ops m (i+1) (E.put (oA ops i).dst s) K) (hk:(XY P ops E i&&HC N (oA ops i)&&Nat.blt i m)=true:=by kernel_rfl):SW P N ops m i E K:=by
 simp only [Aq]at hk;obtain⟨h1,h2⟩:=I5 hk.1.1;obtain⟨d,h3,_,h4⟩:=Fg hk.1.2;rw [h3]at h;unfold SW;rw [Or h1 hk.2];intro w0 FA UA w a blk FS US k1 k2 k3;obtain⟨v,U,g1,g2,g3⟩:=hp _ _ _ _ _ _ _ _ _ k1;have hr:=g1 w (fun r _=>⟨fun _ _=>rfl,fun _ _=>rfl⟩);simp only [wpStill,Cx k1 h2,Cg,Oper.still,hr,Oper.stillUpon_value];rw [h3];refine h _ _ _ _ _ _ _ _ (k1.put h4 g2 (N3 k1 g3 _)) ?_ ?_
 ·rw [Bt (by simp),k2]
 ·rw [Bt (by simp),k3]
theorem ADc {s:SV} (i:Nat) (hp:fD P E (oA ops i) s) (h:KW P N ops ts (i::dn) (E.put (oA ops i).dst s) Q) (hk:(XY P ops E i&&HC N (oA ops i)&&rP ops ts dn i)=true:=by kernel_rfl):KW P N ops ts dn E Q:=by
 simp only [Aq,rP]at hk;obtain⟨⟨h1,h2⟩,h3,h4⟩:=hk;obtain⟨h5,h6⟩:=I5 h1;obtain⟨d,h7,_,h8⟩:=Fg h2;unfold KW at h⊢;rw [R7 (i:=i) h3];rw [h7]at h;intro hQ hc w0 FA UA w a blk FS US k1 k2 k3;obtain⟨e1,e2,e3,e4,e5⟩:=RJ h4;obtain⟨v,U,g1,g2,g3⟩:=hp _ _ _ _ _ _ _ _ _ k1;refine Lr (v:=v) (n:=ops.size) (HW h5) (Region.noSelect_spec e1) (fun c a w hx=>?_) e4 e5 _ _ a w hc (Region.free_spec (HW h5) e2) e3 (.inl ⟨Cx k1 h6,fun w2 e=>?_⟩) ?_
 ·obtain⟨E',blk',FS',US',m1,_⟩:=hx;exact(hQ c E' m1).elim
 ·exact g1 w2 (fun r hr=>⟨fun b hb=>e.2 b (k1.inF r b hb).2,fun b hb=>e.2 b (k1.inU r b hb).2⟩)
 ·rw [h7];refine h hQ (Kg hc e3) _ _ _ _ _ _ _ _ (k1.put h8 g2 (N3 k1 g3 _)) ?_ ?_
  ·rw [Bt (by simp),k2]
  ·rw [Bt (by simp),k3]
def ACa (o:Oper):Bool:=match o.op with
 | .assign (.const _)| .move (.const _)=>true
 |_=>false
theorem pjk {o:Oper} (h:ACa o=true:=by kernel_rfl):fD P E o (.one .junk):=by
 intro N w0 FA UA w a blk FS US hr;unfold ACa at h;split at h
 ·rename_i v ho;exact⟨v,[],fun w2 _=>by simp [execOp,ho,Act.eval],by simp [EB,CN,TV.isJunk],by simp⟩
 ·rename_i v ho;exact⟨v,[],fun w2 _=>by simp [execOp,ho,Act.eval],by simp [EB,CN,TV.isJunk],by simp⟩
 ·cases h
end
end Go.TI
namespace Go.TI
open Go
theorem Ng {n:Int} (h1: -9223372036854775808<=n) (h2:n<=9223372036854775807):IntKind.i64.wrap n=n:=by rw [IntKind.wrap_i64];omega
theorem C6 {a b:Int} (h1: -9223372036854775808<=a+b) (h2:a+b<=9223372036854775807):ad a b=a+b:=Ng h1 h2
theorem C3 {a b:Int} (h1: -9223372036854775808<=a-b) (h2:a-b<=9223372036854775807):sb a b=a-b:=Ng h1 h2
theorem Nq {a b:Int} (h1: -9223372036854775808<=a*b) (h2:a*b<=9223372036854775807):ml a b=a*b:=Ng h1 h2
theorem ad1 {i:Nat} (h:i<9223372036854775807):ad (i:Int) 1=((i+1:Nat):Int):=by rw [C6]<;>omega
theorem Iy (a b:ByteArray):seq a b=decide (a=b):=by
 unfold seq;rw [FI,CV,AD];constructor
 ·intro h;rw [ByteArray.toList_eq,ByteArray.toList_eq]at h;cases a;cases b;simp only [ByteArray.mk.injEq];exact lJ h
 ·intro h;rw [h]
section
variable {α β σ S:Type}
theorem AN {l:List α} {i:Nat}:gi l (i:Int)=l[i]? :=by
 unfold gi;rw [Az (by omega)];simp
theorem Hp {l:List α} {i:Nat} {x:α}:si l (i:Int) x=l.set i x:=by simp [si]
theorem Bb {l:List α} {i:Nat}:decide ((i:Int)<ln l)=decide (i<l.length):=by
 rw [FI,AD,AD];simp [ln]
def N2 (step:σ->Nat->α->σ⊕β) (fin:σ->β):List α->Nat->σ->β
 |[],_,s=>fin s
 |x::l,i,s=>match step s i x with
  | .inl s'=>N2 step fin l (i+1) s'
  | .inr b=>b
theorem Ze {body:S->Option (S⊕β)} (mkS:σ->Int->S) (l:List α) (step:σ->Nat->α->σ⊕β) (fin:σ->β) (Inv:Nat->σ->Prop)
  (h1:∀s i x,l[i]?=some x->Inv i s->body (mkS s (i:Nat))=some (match step s i x with| .inl s'=> .inl (mkS s' ((i+1:Nat):Int))| .inr b=> .inr b)/\∀s',step s i x= .inl s'->Inv (i+1) s')
  (h2:∀s,Inv l.length s->body (mkS s (l.length:Nat))=some (.inr (fin s))):∀(n i:Nat) (s:σ),i+n=l.length->Inv i s->A0 body (mkS s (i:Nat))=some (N2 step fin (l.drop i) i s)
 |0,i,s,hi,hs=>by
  have:i=l.length:=by omega
  subst this;rw [AG,h2 s hs,CA (AB _)];rfl
 |n+1,i,s,hi,hs=>by
  have a:i<l.length:=by omega
  obtain⟨h3,h4⟩:=h1 s i l[i] (Ac a) hs;rw [AG,h3,Bs a,N2]
  cases c:step s i l[i]with
  |inl s'=>simp only [];exact Ze mkS l step fin Inv h1 h2 n (i+1) s' (by omega) (h4 s' c)
  |inr b=>rfl
theorem Oh {body:S->Option (S⊕β)} (mkS:σ->Int->S) (l:List α) (step:σ->Nat->α->σ⊕β) (fin:σ->β) (Inv:Nat->σ->Prop)
  (h1:∀s i x,l[i]?=some x->Inv i s->body (mkS s (i:Nat))=some (match step s i x with| .inl s'=> .inl (mkS s' ((i+1:Nat):Int))| .inr b=> .inr b)/\∀s',step s i x= .inl s'->Inv (i+1) s')
  (h2:∀s,Inv l.length s->body (mkS s (l.length:Nat))=some (.inr (fin s))) {s:σ} (hs:Inv 0 s):A0 body (mkS s 0)=some (N2 step fin l 0 s):=
 Ze mkS l step fin Inv h1 h2 l.length 0 s (by omega) hs
end
end Go.TI
namespace Go.TI
open Go
section
variable {α:Type}
def zl (z:α->Nat) (l:List α):Nat:=l.length+(l.map z).sum
theorem AA6 {z:α->Nat} {l:List α}:l.length<=zl z l:=by unfold zl;omega
theorem rE {β:Type} {body:Int->Option (Int⊕(Unit⊕Bool))} (a:List α) (b:List β) (p:α->β->Bool) (hl:a.length=b.length) (hM:a.length<=9223372036854775807)
  (h1:∀(i:Nat) x y,a[i]?=some x->b[i]?=some y->body (i:Nat)=some (bif p x y then .inl (((i+1:Nat)):Int)else .inr (.inr false))) (h2:body (a.length:Nat)=some (.inr (.inl ()))):
  A0 body 0=some (bif(a.zip b).all (fun z=>p z.1 z.2)then .inl ()else .inr false):=by
 have hz:(a.zip b).length=a.length:=by simp [hl]
 have:=Oh (body:=body) (fun(_:Unit) i=>i) (a.zip b) (fun _ _ z=>bif p z.1 z.2 then .inl ()else .inr (.inr false)) (fun _=> .inl ()) (fun _ _=>True)
  (fun s i x hx _=>by
   refine⟨?_,fun _ _=>trivial⟩;obtain⟨x1,x2⟩:=x;have hx':=Aj.1 hx;obtain⟨d,hx'⟩:=hx';rw [List.getElem_zip]at hx'
   injection hx' with e1 e2
   rw [h1 i x1 x2 (by rw [<-e1];exact Ac _) (by rw [<-e2];exact Ac _)];simp only
   cases p x1 x2<;>rfl)
  (fun s _=>by rw [hz];exact h2) (s:=()) trivial
 rw [this];have c:∀(m:List (α×β)) (i:Nat),N2 (fun(_:Unit) _ z=>bif p z.1 z.2 then .inl ()else .inr (.inr false)) (fun _=>(.inl ():Unit⊕Bool)) m i ()=bif m.all (fun z=>p z.1 z.2)then .inl ()else .inr false:=by
  intro m
  induction m with
  |nil=>intro i;rfl
  |cons z m ih=>
   intro i;simp only [N2,En]
   cases p z.1 z.2 with
   |false=>rfl
   |true=>simp only [Ag,CS];exact ih _
 rw [c]
theorem pT {p:α->α->Bool}:∀{a b:List α},(∀x∈a,∀y∈b,(p x y=true↔x=y))->a.length=b.length->((a.zip b).all (fun z=>p z.1 z.2)=true↔a=b)
 |[],[],_,_=>by simp
 |x::a,y::b,hp,h=>by
  have ih:=pT (p:=p) (a:=a) (b:=b) (fun x' hx y' hy=>hp x' (Hb _ hx) y' (Hb _ hy)) (by simpa using h);simp only [List.zip_cons_cons,En,Aq,ih,hp x Cy y Cy,OH]
 |[],_::_,_,h=>by simp at h
 |_::_,[],_,h=>by simp at h
end
end Go.TI
namespace Go.TI
open Go
section
variable {α β σ S:Type}
theorem R5 {body:S->Option (S⊕β)} (mkS:σ->Int->S) (n:Nat) (Inv:Nat->σ->Prop) (Q:β->Prop)
  (h1:∀s i,i<n->Inv i s->(∃s',body (mkS s (i:Nat))=some (.inl (mkS s' ((i+1:Nat):Int)))/\Inv (i+1) s')\/∃b,body (mkS s (i:Nat))=some (.inr b)/\Q b)
  (h2:∀s,Inv n s->∃b,body (mkS s (n:Nat))=some (.inr b)/\Q b):∀(k i:Nat) (s:σ),i+k=n->Inv i s->∃b,A0 body (mkS s (i:Nat))=some b/\Q b
 |0,i,s,hi,hs=>by
  have:i=n:=by omega
  subst this;obtain⟨b,h3,h4⟩:=h2 s hs;exact⟨b,by rw [AG,h3],h4⟩
 |k+1,i,s,hi,hs=>by
  rcases h1 s i (by omega) hs with⟨s',h3,h4⟩|⟨b,h3,h4⟩
  ·obtain⟨b,h5,h6⟩:=R5 mkS n Inv Q h1 h2 k (i+1) s' (by omega) h4;exact⟨b,by rw [AG,h3];exact h5,h6⟩
  ·exact⟨b,by rw [AG,h3],h4⟩
theorem Bw {body:S->Option (S⊕β)} (mkS:σ->Int->S) (n:Nat) (Inv:Nat->σ->Prop) (Q:β->Prop)
  (h1:∀s i,i<n->Inv i s->(∃s',body (mkS s (i:Nat))=some (.inl (mkS s' ((i+1:Nat):Int)))/\Inv (i+1) s')\/∃b,body (mkS s (i:Nat))=some (.inr b)/\Q b)
  (h2:∀s,Inv n s->∃b,body (mkS s (n:Nat))=some (.inr b)/\Q b) {s:σ} (hs:Inv 0 s):∃b,A0 body (mkS s 0)=some b/\Q b:=
 R5 mkS n Inv Q h1 h2 n 0 s (by omega) hs
theorem Zf {body body':S->Option (S⊕β)} (mkS:σ->Int->S) (n:Nat) (Inv:Nat->σ->Prop) (Q:β->Prop)
  (h1:∀s i,i<n->Inv i s->body' (mkS s (i:Nat))=body (mkS s (i:Nat))/\((∃s',body (mkS s (i:Nat))=some (.inl (mkS s' ((i+1:Nat):Int)))/\Inv (i+1) s')\/∃b,body (mkS s (i:Nat))=some (.inr b)/\Q b))
  (h2:∀s,Inv n s->body' (mkS s (n:Nat))=body (mkS s (n:Nat))/\∃b,body (mkS s (n:Nat))=some (.inr b)/\Q b):∀(k i:Nat) (s:σ),i+k=n->Inv i s->∃b,A0 body (mkS s (i:Nat))=some b/\A0 body' (mkS s (i:Nat))=some b/\Q b
 |0,i,s,hi,hs=>by
  have:i=n:=by omega
  subst this;obtain⟨e,b,h3,h4⟩:=h2 s hs;exact⟨b,by rw [AG,h3],by rw [AG,e,h3],h4⟩
 |k+1,i,s,hi,hs=>by
  obtain⟨e,h⟩:=h1 s i (by omega) hs
  rcases h with⟨s',h3,h4⟩|⟨b,h3,h4⟩
  ·obtain⟨b,h5,h6,h7⟩:=Zf mkS n Inv Q h1 h2 k (i+1) s' (by omega) h4;exact⟨b,by rw [AG,h3];exact h5,by rw [AG,e,h3];exact h6,h7⟩
  ·exact⟨b,by rw [AG,h3],by rw [AG,e,h3],h4⟩
theorem jH {body body':S->Option (S⊕β)} (mkS:σ->Int->S) (n:Nat) (Inv:Nat->σ->Prop) (Q:β->Prop)
  (h1:∀s i,i<n->Inv i s->body' (mkS s (i:Nat))=body (mkS s (i:Nat))/\((∃s',body (mkS s (i:Nat))=some (.inl (mkS s' ((i+1:Nat):Int)))/\Inv (i+1) s')\/∃b,body (mkS s (i:Nat))=some (.inr b)/\Q b))
  (h2:∀s,Inv n s->body' (mkS s (n:Nat))=body (mkS s (n:Nat))/\∃b,body (mkS s (n:Nat))=some (.inr b)/\Q b) {s:σ} (hs:Inv 0 s):∃b,A0 body (mkS s 0)=some b/\A0 body' (mkS s 0)=some b/\Q b:=
 Zf mkS n Inv Q h1 h2 n 0 s (by omega) hs
theorem Wf {body:Int->Option (Int⊕β)} (l:List α) (p:Nat->α->Bool) (no yes:β) (hM:l.length<=9223372036854775807)
  (h1:∀(i:Nat) x,l[i]?=some x->body (i:Nat)=some (bif p i x then .inl (((i+1:Nat)):Int)else .inr no)) (h2:body (l.length:Nat)=some (.inr yes)):
  A0 body 0=some (bif l.zipIdx.all (fun z=>p z.2 z.1)then yes else no):=by
 have:=Oh (body:=body) (fun(_:Unit) i=>i) l (fun _ i x=>bif p i x then .inl ()else .inr no) (fun _=>yes) (fun _ _=>True)
  (fun s i x hx _=>by
   refine⟨?_,fun _ _=>trivial⟩;rw [h1 i x hx]
   cases p i x<;>rfl)
  (fun s _=>h2) (s:=()) trivial
 rw [this];have a:∀(m:List α) (i:Nat),N2 (fun(_:Unit) i x=>bif p i x then .inl ()else .inr no) (fun _=>yes) m i ()=bif(m.zipIdx i).all (fun z=>p z.2 z.1)then yes else no:=by
  intro m
  induction m with
  |nil=>intro i;rfl
  |cons z m ih=>
   intro i;simp only [N2,List.zipIdx_cons,En]
   cases p i z with
   |false=>rfl
   |true=>simp only [Ag,CS];exact ih _
 rw [a]
theorem We {γ:Type} {body:Int×List γ->Option ((Int×List γ)⊕List γ)} (l:List α) (f:α->γ)
  (h1:∀(i:Nat) x (out:List γ),l[i]?=some x->out.length=i->body ((i:Nat),out)=some (.inl (((i+1:Nat):Int),out++ [f x]))) (h2:∀out,body ((l.length:Nat),out)=some (.inr out)):
  A0 body (0,[])=some (l.map f):=by
 have:=Oh (body:=body) (fun(s:List γ) i=>(i,s)) l (fun out _ x=>(.inl (out++ [f x]):List γ⊕List γ)) (fun out=>out) (fun i out=>out.length=i)
  (fun s i x hx hi=>by
   refine⟨h1 i x s hx hi,fun s' hs=>?_⟩
   injection hs with hs
   rw [<-hs,Ai,Ao,hi])
  (fun s _=>h2 s) (s:=[]) rfl
 rw [this];have a:∀(m:List α) (i:Nat) (out:List γ),N2 (fun out _ x=>(.inl (out++ [f x]):List γ⊕List γ)) (fun out=>out) m i out=out++m.map f:=by
  intro m
  induction m with
  |nil=>intro i out;simp [N2]
  |cons z m ih=>
   intro i out;simp only [N2,ih,BT,Ap,Cd]
 rw [a,A6]
theorem oD {γ:Type} {body:Int×List γ->Option ((Int×List γ)⊕List γ)} (n:Nat) (f:Nat->γ)
  (h1:∀(i:Nat) (out:List γ),i<n->out.length=i->body ((i:Nat),out)=some (.inl (((i+1:Nat):Int),out++ [f i]))) (h2:∀out,body ((n:Nat),out)=some (.inr out)):
  A0 body (0,[])=some ((List.range n).map f):=
 We (List.range n) f (fun i x out hx ho=>by
  obtain⟨a,hx⟩:=Aj.1 hx;rw [List.getElem_range]at hx;rw [<-hx]
  exact h1 i out (by simpa using a) ho) (fun out=>by rw [Ch];exact h2 out)
theorem Wb {by_:Nat} {z:α} {n:Nat} (h:by_*n<=281474976710656) (h2:n<=9223372036854775807):mk by_ z (n:Int)=some (List.replicate n z):=by
 unfold mk;have:((by_*n:Nat):Int)<=281474976710656:=by omega
 rw [Int.natCast_mul]at this;rw [Az ⟨by omega,this,by omega⟩,B7]
theorem CO {by_:Nat} {l m:List α} (h:(l.length+m.length)*by_<=140737488355328):ap by_ l m=some (l++m):=Az h
theorem OA {l:List α} {i:Int} (h1:0<=i) (h2:i<l.length):gi l i=some (l[i.toNat]'(by omega)):=by
 unfold gi;rw [Az h1];exact Ac _
theorem Cu {l:List α}:ln l=(l.length:Int):=rfl
end
end Go.TI
namespace Go.TI
open Go
def L (s:ByteArray):List UInt8:=s.data.toList
theorem If {a b:ByteArray} (h:L a=L b):a=b:=by
 cases a;cases b;simp only [L]at h;simp only [ByteArray.mk.injEq];exact lJ h
theorem WH (s:ByteArray):(L s).length=s.size:=by cases s;rfl
theorem DA (a b:ByteArray):L (a++b)=L a++L b:=by simp [L]
theorem Eh (l:List UInt8):L (bs l)=l:=by simp [L,bs]
theorem IA (l:List Int):L (Hh l)=l.map fun n=>UInt8.ofNat n.toNat:=strOfNums_data l
theorem HD (s:ByteArray) (i j:Nat):L (s.extract i j)=((L s).drop i).take (j-i):=by
 have:s=ByteArray.mk (L s).toArray:=by cases s;simp [L]
 rw [this,ByteArray.extract_mk];simp [L]
theorem BJ (s:ByteArray):FZ s=((L s).length:Int):=by rw [WH];rfl
theorem Fv (s:ByteArray) {i:Nat} (h:i<(L s).length):sx s (i:Int)=some (((L s)[i]).toNat:Int):=by
 have h':i<s.size:=by rw [<-WH];exact h
 unfold sx;rw [Az ⟨by omega,by omega⟩];unfold Bj.bt;rw [dif_pos (by simpa using h')];rfl
theorem Fo (s:ByteArray) {i j:Nat} (h1:i<=j) (h2:j<=(L s).length):sub s (i:Int) (j:Int)=some (s.extract i j):=by
 rw [WH]at h2;unfold sub;rw [Az ⟨by omega,by omega,by omega⟩,B7,B7]
theorem GN (a b:ByteArray) (h:(L a).length+(L b).length<=9223372036854775807):SA a b=some (a++b):=by
 rw [WH,WH]at h;unfold SA;rw [A5 (by omega)]
theorem OS (a b:ByteArray):seq a b=decide (L a=L b):=by
 rw [Iy,FI,AD,AD];exact⟨fun h=>by rw [h],If⟩
def Cp (n:Nat):List UInt8:=if h:n<=127 then [UInt8.ofNat n]else UInt8.ofNat (n %128+128)::Cp (n/128)
termination_by n
decreasing_by omega
def EI:List UInt8->Nat
 |[]=>0
 |d::ds=>d.toNat %128+128*EI ds
theorem M6:∀(ds es:List UInt8),EI (ds++es)=EI ds+128^ds.length*EI es
 |[],es=>by simp [EI]
 |d::ds,es=>by
  simp only [BB,EI,M6 ds es,Ax,TW];rw [Nat.mul_add,Hi];congr 2;rw [<-Nat.mul_assoc,pJ 128]
theorem fU (d:UInt8):d.toNat<256:=d.toNat_lt
theorem Kd {n:Nat} (h:n<=127):Cp n=[UInt8.ofNat n]:=by rw [Cp,dif_pos h]
theorem RL {n:Nat} (h:¬n<=127):Cp n=UInt8.ofNat (n %128+128)::Cp (n/128):=by rw [Cp,dif_neg h]
theorem Y5:∀{ds:List UInt8} {x:UInt8},EI (ds++ [x])=0->x.toNat<128->x.toNat=0
 |[],x,h,hx=>by simp [EI]at h;omega
 |d::ds,x,h,hx=>by
  simp only [BB,EI]at h;exact Y5 (ds:=ds) (by omega) hx
theorem Zm:∀(ds:List UInt8) (x:UInt8),(∀d∈ds,128<=d.toNat)->x.toNat<128->(Cp (EI (ds++ [x]))=ds++ [x]↔¬(x.toNat=0/\ds≠ []))
 |[],x,_,hx=>by
  have:EI ([]++ [x])=x.toNat:=by simp [EI];omega
  rw [this,Kd (by omega)];simp
 |d::ds,x,hd,hx=>by
  have ih:=Zm ds x (fun e he=>hd e (Hb _ he)) hx;have h1:=hd d Cy;have h2:=fU d;have hv:EI (d::ds++ [x])=d.toNat-128+128*EI (ds++ [x]):=by
   simp only [BB,EI];omega
  rw [hv];by_cases h0:EI (ds++ [x])=0
  ·have a:=Y5 h0 hx;rw [h0,Kd (by omega)];refine iff_of_false ?_ (by simp [a]);intro e;have:=Dn List.length e;simp at this
  ·rw [RL (by omega)];have e1:UInt8.ofNat ((d.toNat-128+128*EI (ds++ [x])) %128+128)=d:=by
    have:(d.toNat-128+128*EI (ds++ [x])) %128+128=d.toNat:=by omega
    rw [this,UInt8.ofNat_toNat]
   have e2:(d.toNat-128+128*EI (ds++ [x]))/128=EI (ds++ [x]):=by omega
   rw [e1,e2,BB,OH];rw [ih];constructor
   ·rintro⟨_,h⟩ ⟨h3,_⟩;refine h ⟨h3,?_⟩;rintro rfl;apply h0;simp [EI,h3]
   ·intro h;exact⟨rfl,fun h3=>h ⟨h3.1,by simp⟩⟩
theorem Zn {body:Int×List Int->Option ((Int×List Int)⊕(Int×List Int))}
  (hb:∀n out,body (n,out)=bif decide (n>127)then((ap 1 out [(IntKind.u8.wrap (ad (Int.tmod n 128) 128))]).bind fun c=>some (.inl ((qu n 128),c)))else some (.inr (n,out))):
  ∀(n:Nat) (out:List Int),out.length+n<=1099511627776->∃(m:Nat) (o:List Int),A0 body ((n:Int),out)=some ((m:Int),o)/\m<=127/\o.length<=out.length+n/\(o++ [(m:Int)]).map (fun n=>UInt8.ofNat n.toNat)=out.map (fun n=>UInt8.ofNat n.toNat)++Cp n
 |n,out,h=>by
  rw [AG,hb];by_cases hn:n<=127
  ·rw [Af (by omega),Ae];exact⟨n,out,rfl,hn,by omega,by rw [Kd hn];simp⟩
  ·rw [Ad (by omega),Ag,CO (by simp only [Ao];omega),Aa];have e1:Int.tmod (n:Int) 128=((n %128:Nat):Int):=rfl;have e2:qu (n:Int) 128=((n/128:Nat):Int):=by
    unfold qu;rw [show Int.tdiv (n:Int) 128=((n/128:Nat):Int)from Int.ofNat_tdiv n 128|>.symm,Ng (by omega) (by omega)]
   have e3:IntKind.u8.wrap (ad (Int.tmod (n:Int) 128) 128)=((n %128+128:Nat):Int):=by
    rw [e1,C6 (by omega) (by omega),IntKind.wrap_u8];omega
   obtain⟨m,o,h1,h2,h3,h4⟩:=Zn hb (n/128) (out++ [((n %128+128:Nat):Int)]) (by simp only [Ai,Ao];omega);rw [e2,e3];refine⟨m,o,h1,h2,by simp only [Ai,Ao]at h3;omega,?_⟩;rw [h4,RL hn,C8,Ap];rfl
termination_by n=>n
decreasing_by omega
theorem ABV {s:Int} (h0:0<=s) (h1:s<4294967296):IntKind.u32.wrap (Int.tdiv s 2)=Int.fdiv s (2^(min (1:Int).toNat IntKind.u32.bits)):=by
 have e:(2:Int)^(min (1:Int).toNat IntKind.u32.bits)=2:=by decide
 rw [e,IntKind.wrap_u32,Int.tdiv_eq_ediv_of_nonneg h0,Int.fdiv_eq_ediv_of_nonneg _ (by omega)];omega
theorem an1 {s:Int} (h0:0<=s) (h1:s<4294967296):an s 1=Int.tmod s 2:=by
 unfold an;obtain⟨n,rfl⟩:=Dv h0;have:(BitVec.ofInt 32 (n:Int)&&&BitVec.ofInt 32 1).toNat=n %2:=by
  rw [BitVec.toNat_and,BitVec.ofInt_natCast,BitVec.toNat_ofNat];have e1:(BitVec.ofInt 32 1).toNat=1:=by decide
  rw [e1,Nat.and_one_is_mod];omega
 rw [this,IntKind.wrap_u32,J4 (by omega)];omega
theorem AAG (a b:Int):0<=xr a b/\xr a b<4294967296:=by
 unfold xr;rw [IntKind.wrap_u32];omega
end Go.TI
