/- What walks of Go code need. No condition. -/
import Derived.Calls
import Derived.WalkKit
import Derived.Laws.AppendOwn
import Derived.Laws.OwnMore
import Derived.OrdersHeld
import Derived.Laws.Cells
import Derived.Laws.Entries
import Derived.ChangeKeysEq
import Derived.Laws.BytesArg
import Derived.Laws.MakeOwn
set_option linter.unusedSimpArgs false
namespace Go.TI
theorem Aa:type_of% @Option.bind_some:=@Option.bind_some
theorem Ab:type_of% @List.getElem?_eq_getElem:=@List.getElem?_eq_getElem
theorem Ac:type_of% @decide_eq_true:=@decide_eq_true
theorem Ad:type_of% @cond_false:=@cond_false
theorem Ae:type_of% @List.getElem?_eq_some_iff:=@List.getElem?_eq_some_iff
theorem Af:type_of% @List.take_succ_eq_append_getElem:=@List.take_succ_eq_append_getElem
theorem Ag:type_of% @decide_eq_false:=@decide_eq_false
theorem Ah:type_of% @cond_true:=@cond_true
theorem Aj:type_of% @Option.bind_eq_some_iff:=@Option.bind_eq_some_iff
theorem Al:type_of% @Bool.and_eq_true:=@Bool.and_eq_true
theorem Am:type_of% @List.mem_of_getElem?:=@List.mem_of_getElem?
theorem An:type_of% @Option.some.injEq:=@Option.some.injEq
theorem Ao:type_of% @List.nil_append:=@List.nil_append
theorem Aq:type_of% @List.mem_append:=@List.mem_append
theorem Au:type_of% @List.getElem_of_mem:=@List.getElem_of_mem
theorem Ay:type_of% @Bool.not_true:=@Bool.not_true
theorem Az:type_of% @List.mem_map:=@List.mem_map
theorem A3:type_of% @List.length_append:=@List.length_append
theorem A4:type_of% @List.getElem_mem:=@List.getElem_mem
theorem A5:type_of% @Nat.le_refl:=@Nat.le_refl
theorem A9:type_of% @Option.map_eq_some_iff:=@Option.map_eq_some_iff
theorem AA:type_of% @if_neg:=@if_neg
theorem AC:type_of% @List.mem_filter:=@List.mem_filter
theorem AH:type_of% @List.pairwise_append:=@List.pairwise_append
theorem AL:type_of% @Int.toNat_of_nonneg:=@Int.toNat_of_nonneg
theorem AM:type_of% @List.length_cons:=@List.length_cons
theorem AQ:type_of% @List.append_nil:=@List.append_nil
theorem AS:type_of% @List.drop_eq_getElem_cons:=@List.drop_eq_getElem_cons
theorem AU:type_of% @Nat.eq_of_beq_eq_true:=@Nat.eq_of_beq_eq_true
theorem AY:type_of% @List.take_of_length_le:=@List.take_of_length_le
theorem Ba:type_of% @List.eq_nil_of_length_eq_zero:=@List.eq_nil_of_length_eq_zero
theorem Bc:type_of% @if_pos:=@if_pos
theorem Bq:type_of% @List.mem_append_right:=@List.mem_append_right
theorem Br:type_of% @decide_eq_true_eq:=@decide_eq_true_eq
theorem Bs:type_of% @List.mem_singleton:=@List.mem_singleton
theorem Bx:type_of% @List.nodup_append:=@List.nodup_append
theorem By:type_of% @List.append_assoc:=@List.append_assoc
theorem Bz:type_of% @List.length_filter_le:=@List.length_filter_le
theorem B8:type_of% @List.mem_append_left:=@List.mem_append_left
theorem BB:type_of% @List.ext_getElem?:=@List.ext_getElem?
theorem BC:type_of% @Nat.lt_of_lt_of_le:=@Nat.lt_of_lt_of_le
theorem BF:type_of% @List.take_append_drop:=@List.take_append_drop
theorem BV:type_of% @List.cons_append:=@List.cons_append
theorem BY:type_of% @List.mem_or_eq_of_mem_set:=@List.mem_or_eq_of_mem_set
theorem BZ:type_of% @List.pairwise_cons:=@List.pairwise_cons
theorem Cf:type_of% @List.length_map:=@List.length_map
theorem Ci:type_of% @List.map_congr_left:=@List.map_congr_left
theorem Cr:type_of% @List.filter_append:=@List.filter_append
theorem CL:type_of% @Option.getD_some:=@Option.getD_some
theorem Dc:type_of% @List.take_add_one:=@List.take_add_one
theorem Dd:type_of% @List.filter_eq_nil_iff:=@List.filter_eq_nil_iff
theorem De:type_of% @List.drop_drop:=@List.drop_drop
theorem Dj:type_of% @List.nodup_cons:=@List.nodup_cons
theorem Do:type_of% @if_true:=@if_true
theorem Dp:type_of% @List.pairwise_iff_getElem:=@List.pairwise_iff_getElem
theorem Du:type_of% @List.length_singleton:=@List.length_singleton
theorem Dz:type_of% @List.filter_filter:=@List.filter_filter
theorem D8:type_of% @List.eq_of_mem_replicate:=@List.eq_of_mem_replicate
theorem DP:type_of% @Int.toNat_natCast:=@Int.toNat_natCast
theorem DQ:type_of% @Int.eq_ofNat_of_zero_le:=@Int.eq_ofNat_of_zero_le
theorem DZ:type_of% @List.range_succ:=@List.range_succ
theorem Ee:type_of% @List.filter_eq_self:=@List.filter_eq_self
theorem Ef:type_of% @List.map_map:=@List.map_map
theorem Eg:type_of% @List.drop_eq_nil_of_le:=@List.drop_eq_nil_of_le
theorem Ev:type_of% @List.length_take:=@List.length_take
theorem Ex:type_of% @UInt8.toNat_ofNat':=@UInt8.toNat_ofNat'
theorem Ey:type_of% @List.mem_cons_self:=@List.mem_cons_self
theorem Ez:type_of% @Bool.not_false:=@Bool.not_false
theorem E5:type_of% @List.eq_nil_or_concat:=@List.eq_nil_or_concat
theorem EM:type_of% @List.mem_of_find?_eq_some:=@List.mem_of_find?_eq_some
theorem EW:type_of% @List.length_range:=@List.length_range
theorem FT:type_of% @List.any_eq_true:=@List.any_eq_true
theorem Gs:type_of% @List.append_eq_nil_iff:=@List.append_eq_nil_iff
theorem GC:type_of% @Option.map_some:=@Option.map_some
theorem GD:type_of% @List.drop_left':=@List.drop_left'
theorem GZ:type_of% @List.map_cons:=@List.map_cons
theorem Hb:type_of% @List.singleton_append:=@List.singleton_append
theorem Hc:type_of% @List.concat_eq_append:=@List.concat_eq_append
theorem He:type_of% @List.getElem?_set:=@List.getElem?_set
theorem Hf:type_of% @Bool.not_eq_true':=@Bool.not_eq_true'
theorem HA:type_of% @beq_iff_eq:=@beq_iff_eq
theorem HB:type_of% @List.getElem?_append_right:=@List.getElem?_append_right
theorem HD:type_of% @Int.le_refl:=@Int.le_refl
theorem Ic:type_of% @Sum.elim_inl:=@Sum.elim_inl
theorem If:type_of% @Ne.symm:=@Ne.symm
theorem Ig:type_of% @List.take_length:=@List.take_length
theorem IK:type_of% @List.length_pos_iff:=@List.length_pos_iff
theorem IS:type_of% @Option.isSome_iff_exists:=@Option.isSome_iff_exists
theorem IW:type_of% @List.length_nil:=@List.length_nil
theorem Jw:type_of% @List.pairwise_singleton:=@List.pairwise_singleton
theorem JY:type_of% @List.pairwise_map:=@List.pairwise_map
theorem JZ:type_of% @List.length_pos_of_mem:=@List.length_pos_of_mem
theorem Ka:type_of% @List.getElem?_map:=@List.getElem?_map
theorem Lj:type_of% @Nat.blt_eq:=@Nat.blt_eq
theorem Lk:type_of% @List.length_drop:=@List.length_drop
theorem Mm:type_of% @Nat.zero_le:=@Nat.zero_le
theorem Mn:type_of% @List.map_id:=@List.map_id
theorem M5:type_of% @List.map_const':=@List.map_const'
theorem M7:type_of% @Bool.or_eq_true:=@Bool.or_eq_true
theorem Nw:type_of% @Nat.le_trans:=@Nat.le_trans
theorem Ob:type_of% @congrArg:=@congrArg
theorem Oc:type_of% @List.find?_eq_none:=@List.find?_eq_none
theorem OT:type_of% @Nat.lt_trichotomy:=@Nat.lt_trichotomy
theorem PU:type_of% @List.mem_cons:=@List.mem_cons
theorem QI:type_of% @Array.toList_map:=@Array.toList_map
theorem R7:type_of% @Nat.succ_mul:=@Nat.succ_mul
theorem R8:type_of% @Nat.lt_or_ge:=@Nat.lt_or_ge
theorem RZ:type_of% @List.map_append:=@List.map_append
theorem Ux:type_of% @Nat.mul_le_mul:=@Nat.mul_le_mul
theorem Uy:type_of% @List.nodup_nil:=@List.nodup_nil
theorem Uz:type_of% @List.mem_range:=@List.mem_range
theorem aC:type_of% @Nat.zero_add:=@Nat.zero_add
theorem aD:type_of% @Nat.add_zero:=@Nat.add_zero
theorem mM:type_of% @Nat.ble_eq:=@Nat.ble_eq
end Go.TI
set_option linter.unusedVariables false
namespace Go.TI
open Go
inductive Root where
 |slot (n:Nat)
 |box (n:Nat)
 |ext (n:Nat)
 |hand
 deriving DecidableEq
inductive TV where
 |int (k:IntKind) (n:Int)
 |bool (b:Bool)
 |str (s:ByteArray)
 |fn (f:Fn) (ta cap:Array Value)
 |adr (ad:Addr)
 |hdr (ad:Addr) (n c:Nat)
 |sl (own:Bool) (e sz:Nat) (cells:List TV)
 |view (r:Root) (ver:Nat) (q:List Nat) (j:Nat)
 |ptr (r:Root) (ver:Nat) (q:List Nat) (j:Nat)
 |junk
inductive SV where
 |one (t:TV)
 |agg (cells:List TV)
 |tup (vs:List SV)
structure cG where
 B:List Nat
 I:World->Prop
 st:∀w w',I w->(∀b∈B,w'.heap[b]?=w.heap[b]?)->I w'
 rd:Addr->Option Value:=λ_=>Option.none
 rdI:∀w ad v,I w->rd ad=some v->w.cell? ad=some v:=by intro w ad v _ h;cases h
 pin:Option (Nat×Option Value):=Option.none
def cG.none:cG where
 B:=[]
 I:=λ_=>True
 st:=λ_ _ _ _=>trivial
structure St where
 slots:Nat->SV
 boxes:Root->Option (List TV)
 ver:Root->Nat
 gen:Root->Nat
 amb:cG:=cG.none
 fz:Option Nat:=Option.none
def St.stamp (E:St) (r:Root) (q:List Nat):Nat:=match q with
 |[]=>E.gen r
 |_=>E.ver r
def SV.cells:SV->List TV
 | .one t=>[t]
 | .agg cs=>cs
 | .tup _=>[]
variable {w w' w2 w1 w3:World} {E E' E1:St} {a a':Act} {blk blk':Root->Nat} {FA UA q U F:List Nat} {FS US:Root->List Nat} {N d j sz n e c i:Nat} {r:Root} {P:Program} {v vx:Value} {s:SV} {t:TypeId} {o:Oper} {x:Operand} {vs:List Value} {α β:Type} {z y:TV} {xs:List TV} {op:BinOp} {b:Bool} {lo hi:Option Operand} {f:List TV->List TV}
def Bp [DecidableEq α] (f:α->β) (a:α) (b:β):α->β:=λx=>if x=a then b else f x
def St.root (E:St):Root->Option (List TV)
 | .slot n=>some (E.slots n).cells
 |r=>E.boxes r
def SV.withCells:SV->List TV->SV
 | .one _,[t]=> .one t
 | .agg _,cs=> .agg cs
 |s,_=>s
def St.setRoot (E:St) (r:Root) (cs:List TV):St:=match r with
 | .slot n=>{E with slots:=Bp E.slots n ((E.slots n).withCells cs)}
 |r=>{E with boxes:=Bp E.boxes r (some cs)}
def St.bump (E:St) (r:Root):St:={E with ver:=Bp E.ver r (E.ver r+1)}
theorem Cv {cs:List TV}:(E.setRoot r cs).amb=E.amb:=by cases r<;>rfl
theorem Fi {cs:List TV}:(E.setRoot r cs).fz=E.fz:=by cases r<;>rfl
theorem NX:(E.bump r).fz=E.fz:=rfl
theorem JT:(E.bump r).amb=E.amb:=rfl
def Bg:List TV->List Nat->Option (List TV)
 |cs,[]=>some cs
 |cs,c::q=>match cs[c]? with
  |some (.sl _ _ _ cells)=>Bg cells q
  |_=>none
def Ji:List TV->List Nat->Bool
 |_,[]=>true
 |cs,c::q=>match cs[c]? with
  |some (.sl o _ _ cells)=>o&&Ji cells q
  |_=>false
def Cs:List TV->List Nat->(List TV->List TV)->List TV
 |cs,[],f=>f cs
 |cs,c::q,f=>match cs[c]? with
  |some (.sl o e sz cells)=>cs.set c (.sl o e sz (Cs cells q f))
  |_=>cs
def setRow (cs:List α) (j:Nat) (xs:List α):List α:=cs.take j++xs++cs.drop (j+xs.length)
def TV.isSl:TV->Bool
 | .sl .. =>true
 |_=>false
def TV.isJunk:TV->Bool
 | .junk=>true
 |_=>false
mutual
def IT:TV->TV
 | .sl _ e sz cells=> .sl false e sz (A7 cells)
 |t=>t
def A7:List TV->List TV
 |[]=>[]
 |t::ts=>IT t::A7 ts
end
mutual
def AP:TV->Bool
 | .sl o _ _ cells=>!o||Av cells
 | .int .. | .bool _| .str _| .fn .. | .adr .. | .hdr .. =>false
 |_=>true
def Av:List TV->Bool
 |[]=>false
 |t::ts=>AP t||Av ts
end
def nT (E:St) (r:Root) (q:List Nat) (c:Nat) (t:TV):TV:=match t with
 | .sl true _ _ _=> .view r (E.ver r) q c
 |t=>t
def Qi (E:St) (r:Root) (q:List Nat):Nat->List TV->List TV
 |_,[]=>[]
 |c,t::ts=>nT E r q c t::Qi E r q (c+1) ts
def NU (P:Program) (t:TypeId):Value->Option TV
 | .int k n=>some (.int k n)
 | .bool b=>some (.bool b)
 | .string s=>some (.str s)
 | .slice none 0 0=>match P.underlying t with
  |some (.slice e)=>some (.sl true e (P.cellsOf e) [])
  |_=>none
 |_=>none
def St.val (P:Program) (E:St) (t:TypeId):Operand->Option SV
 | .tmp n=>match E.slots n with
  | .one x=>some (.one (nT E (.slot n) [] 0 x))
  | .agg cs=>some (.agg (Qi E (.slot n) [] 0 cs))
  | .tup _=>none
 | .const v=>(NU P t v).map .one
 |_=>none
def iH (f:Option Nat) (d:Nat):Option Nat:=match f with
 |some n=>bif Nat.beq (n/2) d then none else some n
 |none=>none
theorem Tl {f:Option Nat} (h:iH f d=some n):f=some n/\n/2≠d:=by
 unfold iH at h
 cases f with
 |none=>cases h
 |some m=>
  simp only at h
  cases hb:Nat.beq (m/2) d with
  |true=>grind
  |false=>
   rw[hb]at h
   injection h with h
   subst h;exact⟨rfl,λe=>by simp_all⟩
def St.put (E:St) (d:Option Tmp) (s:SV):St:=match d with
 |some d=>{E with slots:=Bp E.slots d s,ver:=Bp E.ver (.slot d)<|E.ver (.slot d)+1,fz:=iH E.fz d}
 |none=>E
open Go.RowKit
def Cy (v:Value):List Nat:=v.ownBlock.toList
def JV (w:World) (v:Value) (vs:List Value):Prop:=∀i u,vs[i]?=some u->∃ad n c,v= .slice (some ad) n c/\w.cell? (ad.add i)=some u
mutual
def DD (w:World):TV->Value->List Nat->List Nat->Prop
 | .int k n,v,F,U=>v= .int k n/\F=[]/\U=[]
 | .bool b,v,F,U=>v= .bool b/\F=[]/\U=[]
 | .str s,v,F,U=>v= .string s/\F=[]/\U=[]
 | .fn f ta cap,v,F,U=>v= .func f ta cap/\F=[]/\U=[]
 | .adr ad,v,F,U=>v= .pointer (some ad)/\F=[]/\U=[]
 | .hdr ad n c,v,F,U=>v= .slice (some ad) n c/\F=[]/\U=[]
 | .sl true e sz cells,v,F,U=>∃n vs F',w.ownsRow 0 e sz v n vs/\Bh w cells vs F' U/\F=Cy v++F'
 | .sl false _ sz cells,v,F,U=>∃A n c vs U' B,v= .slice A n c/\n<=c/\vs.length=n*sz/\JV w v vs/\Bh w cells vs [] U'/\F=[]/\(B=Cy v\/vs=[]/\B=[])/\U=B++U'
 | .junk,v,F,U=>v.oneCell'=true/\F=[]/\U=[]
 |_,_,_,_=>False
def Bh (w:World):List TV->List Value->List Nat->List Nat->Prop
 |[],vs,F,U=>vs=[]/\F=[]/\U=[]
 |t::ts,vs,F,U=>∃v a F1 F2 U1 U2,vs=v::a/\F=F1++F2/\U=U1++U2/\DD w t v F1 U1/\Bh w ts a F2 U2
end
theorem Cl:∀{ts:List TV} {vs F U},Bh w ts vs F U->vs.length=ts.length
 |[],vs,F,U,h=>by simp[h.1]
 |t::ts,vs,F,U,h=>by
  obtain⟨v,a,F1,F2,U1,U2,rfl,_,_,_,h2⟩:=h;simp[Cl h2]
theorem Y4 {a:Addr} (h:w'.heap[a.block]?=w.heap[a.block]?):w'.cell? a=w.cell? a:=World.cell?_of_block h
theorem Jv (a:Addr) (i:Nat):(a.add i).block=a.block:=by grind [Addr.add]
theorem JV.move (h:JV w v vs) (hb:∀b∈Cy v,w'.heap[b]?=w.heap[b]?):JV w' v vs:=by
 intro i u hi;obtain⟨ad,n,c,rfl,hc⟩:=h i u hi
 grind [Y4,Jv,Cy,Value.ownBlock]
theorem JV.moveB {B:List Nat} (h:JV w v vs) (hB:B=Cy v\/vs=[]/\B=[]) (hb:∀b∈B,w'.heap[b]?=w.heap[b]?):JV w' v vs:=by
 rcases hB with rfl|⟨rfl,_⟩
 ·exact h.move hb
 intro i u hi;simp at hi
mutual
theorem Gm {w w':World}:∀{t:TV} {v F U},DD w t v F U->(∀b∈F,w'.heap[b]?=w.heap[b]?)->(∀b∈U,w'.heap[b]?=w.heap[b]?)->DD w' t v F U
 | .int ..,v,F,U,h,_,_=>by grind [DD]
 | .bool _,v,F,U,h,_,_=>by grind [DD]
 | .str _,v,F,U,h,_,_=>by grind [DD]
 | .fn ..,v,F,U,h,_,_=>by grind [DD]
 | .adr ..,v,F,U,h,_,_=>by grind [DD]
 | .hdr ..,v,F,U,h,_,_=>by grind [DD]
 | .junk,v,F,U,h,_,_=>by grind [DD]
 | .view ..,v,F,U,h,_,_=>by grind [DD]
 | .ptr ..,v,F,U,h,_,_=>by grind [DD]
 | .sl true e sz cells,v,F,U,h,hF,hU=>by
  obtain⟨n,vs,F',ho,hr,rfl⟩:=h;refine⟨n,vs,F',?_,Es hr (λb hb=>hF b<|Bq _ hb) hU,rfl⟩;refine⟨ho.1,?_⟩
  rcases ho.2 with h0|⟨g,d,f,rfl,hg,hh,r⟩
  ·exact .inl h0
  grind [Cy,Value.ownBlock]
 | .sl false e sz cells,v,F,U,h,hF,hU=>by
  obtain⟨A,n,c,vs,U',B,rfl,hn,hl,a,hr,rfl,hB,rfl⟩:=h;exact⟨A,n,c,vs,U',B,rfl,hn,hl,a.moveB hB λb hb=>hU b<|B8 _ hb,Es hr (by simp) λb hb=>hU b<|Bq _ hb,rfl,hB,rfl⟩
theorem Es {w w':World}:∀{ts:List TV} {vs F U},Bh w ts vs F U->(∀b∈F,w'.heap[b]?=w.heap[b]?)->(∀b∈U,w'.heap[b]?=w.heap[b]?)->Bh w' ts vs F U
 |[],vs,F,U,h,_,_=>by grind [Bh]
 |t::ts,vs,F,U,h,hF,hU=>by
  obtain⟨v,a,F1,F2,U1,U2,rfl,rfl,rfl,h1,h2⟩:=h
  exact⟨v,a,F1,F2,U1,U2,rfl,rfl,rfl,
   Gm h1 (λb hb=>hF b<|B8 _ hb) (λb hb=>hU b<|B8 _ hb),
   Es h2 (λb hb=>hF b<|Bq _ hb) (λb hb=>hU b<|Bq _ hb)⟩
end
theorem Jr (h:w.ownsRow 0 e sz v n vs):JV w v vs:=by
 intro i u hi
 rcases h.2 with⟨_,h0⟩|⟨g,a,b,rfl,_⟩
 ·have:=h.1
  grind
 exact⟨_,_,_,rfl,h.cells rfl i u hi⟩
mutual
theorem ND {w:World}:∀{t:TV} {v F U},DD w t v F U->∃U',DD w (IT t) v [] U'/\∀b∈U',b∈F\/b∈U
 | .int ..,v,F,U,h=>by grind [DD,IT]
 | .bool _,v,F,U,h=>by grind [DD,IT]
 | .str _,v,F,U,h=>by grind [DD,IT]
 | .fn ..,v,F,U,h=>by grind [DD,IT]
 | .adr ..,v,F,U,h=>by grind [DD,IT]
 | .hdr ..,v,F,U,h=>by grind [DD,IT]
 | .junk,v,F,U,h=>by grind [DD,IT]
 | .view ..,v,F,U,h=>by grind [DD]
 | .ptr ..,v,F,U,h=>by grind [DD]
 | .sl true e sz cells,v,F,U,h=>by
  obtain⟨n,vs,F',ho,hr,rfl⟩:=h;obtain⟨U',hr',hU'⟩:=LN hr;have a:=Jr ho;have hs:∃A c,v= .slice A n c/\n<=c:=by
   rcases ho.2 with⟨rfl,rfl⟩|⟨g,d,f,rfl,_,_,hc,_⟩
   ·grind
   grind
  obtain⟨A,c,rfl,hc⟩:=hs;refine⟨_,⟨A,n,c,vs,U',_,rfl,hc,ho.1,a,hr',by simp,.inl rfl,rfl⟩,λb hb=>?_⟩
  grind
 | .sl false e sz cells,v,F,U,h=>by
  obtain⟨A,n,c,vs,U',B,rfl,hn,hl,a,hr,rfl,hB,rfl⟩:=h;obtain⟨U2,hr',hU'⟩:=LN hr;refine⟨_,⟨A,n,c,vs,U2,B,rfl,hn,hl,a,hr',by simp,hB,rfl⟩,λb hb=>?_⟩
  grind
theorem LN {w:World}:∀{ts:List TV} {vs F U},Bh w ts vs F U->∃U',Bh w (A7 ts) vs [] U'/\∀b∈U',b∈F\/b∈U
 |[],vs,F,U,h=>by grind [Bh,A7]
 |t::ts,vs,F,U,h=>by
  simp only[Bh,A7]at h⊢;obtain⟨v,a,F1,F2,U1,U2,rfl,rfl,rfl,h1,h2⟩:=h;obtain⟨Ua,ha,c⟩:=ND h1;obtain⟨Ub,hb,d⟩:=LN h2
  grind
end
def FC (w:World):Addr->List Nat->Option Addr
 |ad,[]=>some ad
 |ad,c::q=>match w.cell? (ad.add c)with
  |some (.slice (some ad') _ _)=>FC w ad' q
  |_=>none
def K1 (w:World) (v:Value) (q:List Nat):Option Addr:=match v with
 | .slice (some ad) _ _=>FC w ad q
 |_=>none
theorem KI {l:List α} {a:α} (h:l[i]?=some a):l.set i a=l:=by
 apply BB
 grind
theorem Oq {ad:Addr} (h:w.cell? (ad.add c)=some v):FC w ad (c::q)=K1 w v q:=by simp_all [FC,K1];grind
theorem Fz:∀{ts:List TV} {vs F U} (c:Nat) {t:TV},Bh w ts vs F U->ts[c]?=some t->
  ∃v A B C D F1 U1,vs[c]?=some v/\DD w t v F1 U1/\F=A++F1++B/\U=C++U1++D/\
   ∀w' t' v' F1' U1',DD w' t' v' F1' U1'->(∀b∈A++B,w'.heap[b]?=w.heap[b]?)->(∀b∈C++D,w'.heap[b]?=w.heap[b]?)->
    Bh w' (ts.set c t') (vs.set c v') (A++F1'++B) (C++U1'++D)
 |[],vs,F,U,c,t,h,hc=>by simp at hc
 |t0::ts,vs,F,U,0,t,h,hc=>by
  obtain⟨v,a,F1,F2,U1,U2,rfl,rfl,rfl,h1,h2⟩:=h;simp at hc;subst hc;refine⟨v,[],F2,[],U2,F1,U1,rfl,h1,rfl,rfl,λw' t' v' F1' U1' hr hA hC=>?_⟩;exact⟨v',a,F1',F2,U1',U2,rfl,rfl,rfl,hr,Es h2 (by simpa using hA)<|by simpa using hC⟩
 |t0::ts,vs,F,U,c+1,t,h,hc=>by
  obtain⟨v,a,F1,F2,U1,U2,rfl,rfl,rfl,h1,h2⟩:=h;simp at hc;obtain⟨u,A,B,C,D,G,V,hu,hr,rfl,rfl,hk⟩:=Fz c h2 hc;refine⟨u,F1++A,B,U1++C,D,G,V,by simpa using hu,hr,by simp,by simp,λw' t' v' F1' U1' hr' hA hC=>?_⟩;refine⟨v,a.set c v',F1,A++F1'++B,U1,C++U1'++D,rfl,by simp,by simp,Gm h1 ?_ ?_,hk w' t' v' F1' U1' hr' ?_ ?_⟩
  ·grind
  ·grind
  ·grind
  grind
theorem T1:∀(q:List Nat) {cs:List TV} {vs F U} {d:List TV},Bh w cs vs F U->Bg cs q=some d->
  ∃rvs F1 U1,Bh w d rvs F1 U1/\(∀b∈F1,b∈F)/\(∀b∈U1,b∈U)/\
   match q with
   |[]=>rvs=vs
   |c::q=>∃v,vs[c]?=some v/\∀j u,rvs[j]?=some u->∃ad,∀w2:World,(∀b∈F,w2.heap[b]?=w.heap[b]?)->(∀b∈U,w2.heap[b]?=w.heap[b]?)->K1 w2 v q=some ad/\w2.cell? (ad.add j)=some u
 |[],cs,vs,F,U,d,h,hc=>by grind [Bg]
 |c::q,cs,vs,F,U,d,h,hc=>by
  simp only[Bg]at hc;split at hc
  ·rename_i o e sz i l;obtain⟨v,A,B,C,D,F1,U1,hv,hr,rfl,rfl,_⟩:=Fz c h l;have m:∃vs1 F2 U2,Bh w i vs1 F2 U2/\JV w v vs1/\(∀b∈F2,b∈F1)/\(∀b∈U2,b∈U1)/\(∃B,(B=Cy v\/vs1=[]/\B=[])/\∀b∈B,b∈F1\/b∈U1):=by
    cases o
    ·obtain⟨A,n,c,vs1,U',B0,rfl,hn,hl,f,hr,rfl,k,rfl⟩:=hr;exact⟨vs1,[],U',hr,f,by simp,λb hb=>Bq _ hb,B0,k,λb hb=> .inr (B8 _ hb)⟩
    obtain⟨n,vs1,F',ho,hr,rfl⟩:=hr;exact⟨vs1,F',_,hr,Jr ho,λb hb=>Bq _ hb,λ_ hb=>hb,_,.inl rfl,λb hb=> .inl (B8 _ hb)⟩
   obtain⟨vs1,F2,U2,p,f,r,s,B0,k,x⟩:=m;obtain⟨rvs,F3,U3,t,y,z,hb⟩:=T1 q p hc;refine⟨rvs,F3,U3,t,λb hb=>by grind,λb hb=>by grind,v,hv,λj u hj=>?_⟩
   have g:∀w2:World,(∀b∈A++F1++B,w2.heap[b]?=w.heap[b]?)->(∀b∈C++U1++D,w2.heap[b]?=w.heap[b]?)->JV w2 v vs1:=λw2 hA hC=>f.moveB k λb hb=>by grind
   match q,hb with
   |[],hb=>
    subst hb;obtain⟨ad,n,c,rfl,a⟩:=f j u hj;refine⟨ad,λw2 hA hC=>⟨rfl,?_⟩⟩;obtain⟨ad',n',c',he,hcell'⟩:=g w2 hA hC j u hj
    grind
   |c'::q',hb=>
    obtain⟨v',hv',hb⟩:=hb;obtain⟨ad,hk⟩:=hb j u hj;refine⟨ad,λw2 hA hC=>?_⟩;obtain⟨h0,a⟩:=hk w2 (λb hb=>hA b<|by simp[r b hb]) (λb hb=>hC b<|by simp[s b hb]);obtain⟨ad0,n,c,rfl,h1⟩:=g w2 hA hC c' v' hv';refine⟨?_,a⟩;show FC w2 ad0 (c'::q')=some ad
    grind [Oq]
  cases hc
theorem VN:∀(q:List Nat) {cs:List TV} {vs F U} {i:List TV} (c:Nat),Bh w cs vs F U->Ji cs (c::q)=true->Bg cs (c::q)=some i->
  ∃v hv n e sz rvs A B C D F1 U1,vs[c]?=some hv/\w.ownsRow 0 e sz v n rvs/\Bh w i rvs F1 U1/\F=A++(Cy v++F1)++B/\U=C++U1++D/\
   (∀ad m k,v= .slice (some ad) m k->K1 w hv q=some ad)/\
   ∀w' row' rvs' F1' U1',w'.ownsRow 0 e sz v n rvs'->Bh w' row' rvs' F1' U1'->(∀b∈A++B,w'.heap[b]?=w.heap[b]?)->(∀b∈C++D,w'.heap[b]?=w.heap[b]?)->
    ∀f:List TV->List TV,f i=row'->Bh w' (Cs cs (c::q) f) vs (A++(Cy v++F1')++B) (C++U1'++D)
 |[],cs,vs,F,U,i,c,h,ho,hc=>by
  simp only[Bg]at hc;split at hc
  ·rename_i o e sz j d;simp only[An]at hc;subst hc;simp only[Ji,d,Bool.and_true]at ho;subst ho;obtain⟨v,A,B,C,D,F1,U1,hv,hr,rfl,rfl,hk⟩:=Fz c h d;obtain⟨n,vs1,F',a,hr,rfl⟩:=hr;refine⟨v,v,n,e,sz,vs1,A,B,C,D,F',U1,hv,a,hr,rfl,rfl,λad m k p=>by subst p;rfl,λw' row' rvs' F1' U1' ho' hr' hA hC f hf=>?_⟩;simp only[Cs,d,hf];have s:vs.set c v=vs:=KI hv
   grind [DD]
  cases hc
 |c'::q,cs,vs,F,U,i,c,h,ho,hc=>by
  rw[Bg]at hc;split at hc
  ·rename_i o e sz j d;simp only[Ji,d,Al]at ho;obtain⟨rfl,ho⟩:=ho;obtain⟨v,A,B,C,D,F1,U1,hv,hr,rfl,rfl,hk⟩:=Fz c h d;obtain⟨n,vs1,F',a,hr,rfl⟩:=hr;obtain⟨v2,u,n2,e2,sz2,rvs,A2,B2,C2,D2,F2,U2,t,l,x,rfl,rfl,y,z⟩:=VN q c' hr (by grind [Ji]) hc;refine⟨v2,v,n2,e2,sz2,rvs,A++(Cy v++A2),B2++B,C++C2,D2++D,F2,U2,hv,l,x,by simp,by simp,?_,?_⟩
   ·intro ad m k p;obtain⟨ad0,m0,k0,rfl,h1⟩:=Jr a c' u t;show FC w ad0 (c'::q)=some ad
    grind [Oq]
   intro w' row' rvs' F1' U1' ho' hr' hA hC f hf;simp only[Cs,d];have hown':w'.ownsRow 0 e sz v n vs1:=by
    refine⟨a.1,?_⟩
    rcases a.2 with h0|⟨g,h2,h3,rfl,hg,hh,r⟩
    ·exact .inl h0
    grind [Cy,Value.ownBlock]
   have s:vs.set c v=vs:=KI hv;have:=hk w' (.sl true e sz<|Cs j (c'::q) f) v (Cy v++(A2++(Cy v2++F1')++B2)) (C2++U1'++D2) (by simp only[DD];grind) (λb hb=>hA b<|by grind) λb hb=>hC b<|by grind
   grind [Cs]
  cases hc
def Bk (w:World) (a:Act) (blk:Root->Nat):Root->Nat->Option Value
 | .slot n,c=>(a.eval (.tmp n)).cells[c]?
 |r,c=>w.cell? ((⟨blk r,0,none⟩:Addr).add c)
def pv (w:World) (a:Act) (blk:Root->Nat) (r:Root) (q:List Nat) (j:Nat):Option Value:=match q with
 |[]=>Bk w a blk r j
 |c::q=>(Bk w a blk r c).bind λv=>(K1 w v q).bind λad=>w.cell?<|ad.add j
def pa (w:World) (a:Act) (blk:Root->Nat) (r:Root) (q:List Nat) (j:Nat):Option Addr:=match q with
 |[]=>match r with
  | .slot _=>none
  | .hand=>none
  |r=>some<|(⟨blk r,0,none⟩:Addr).add j
 |c::q=>(Bk w a blk r c).bind λv=>(K1 w v q).map λad=>ad.add j
def St.place (E:St) (r:Root) (q:List Nat) (j:Nat):Option TV:=(E.root r).bind λcs=>(Bg cs q).bind λa=>a[j]?
def F7:Option TV->Bool
 |some t=>t.isSl
 |none=>false
def CI (w:World) (a:Act) (E:St) (blk:Root->Nat) (t:TV) (v:Value) (F U:List Nat):Prop:=match t with
 | .view r ver q j=>F=[]/\U=[]/\ver<=E.ver r/\(E.ver r=ver->pv w a blk r q j=some v/\F7 (E.place r q j)=true)
 | .ptr r ver q j=>F=[]/\U=[]/\ver<=E.stamp r q/\(E.stamp r q=ver->(E.place r q j).isSome=true/\∃ad,pa w a blk r q j=some ad/\v= .pointer (some ad))
 | .junk=>F=[]/\U=[]
 |t=>DD w t v F U
def BG (w:World) (a:Act) (E:St) (blk:Root->Nat):List TV->List Value->List Nat->List Nat->Prop
 |[],vs,F,U=>vs=[]/\F=[]/\U=[]
 |t::ts,vs,F,U=>∃v b F1 F2 U1 U2,vs=v::b/\F=F1++F2/\U=U1++U2/\CI w a E blk t v F1 U1/\BG w a E blk ts b F2 U2
mutual
def GI (w:World) (a:Act) (E:St) (blk:Root->Nat):SV->Value->List Nat->List Nat->Prop
 | .one t,v,F,U=>CI w a E blk t v F U/\(t.isJunk=false->v.cells= #[v])
 | .agg cs,v,F,U=>∃vs:List Value,v= .agg vs.toArray/\BG w a E blk cs vs F U
 | .tup ss,v,F,U=>∃vs:List Value,v= .tuple vs.toArray/\OZ w a E blk ss vs F U
def OZ (w:World) (a:Act) (E:St) (blk:Root->Nat):List SV->List Value->List Nat->List Nat->Prop
 |[],vs,F,U=>vs=[]/\F=[]/\U=[]
 |s::ss,vs,F,U=>∃v b F1 F2 U1 U2,vs=v::b/\F=F1++F2/\U=U1++U2/\GI w a E blk s v F1 U1/\OZ w a E blk ss b F2 U2
end
structure Bw (w w':World) (a a':Act) (E E':St) (blk blk':Root->Nat) (r:Root):Prop where
 views:E.ver r<E'.ver r\/(E'.ver r=E.ver r/\
  (∀q j v,pv w a blk r q j=some v->F7 (E.place r q j)=true->pv w' a' blk' r q j=some v/\F7 (E'.place r q j)=true)/\
  (∀q j ad,q≠ []->pa w a blk r q j=some ad->(E.place r q j).isSome=true->pa w' a' blk' r q j=some ad/\(E'.place r q j).isSome=true))
 addrs:E.gen r<E'.gen r\/(E'.gen r=E.gen r/\
  (∀j ad,pa w a blk r [] j=some ad->(E.place r [] j).isSome=true->pa w' a' blk' r [] j=some ad/\(E'.place r [] j).isSome=true))
theorem HJ (h:q≠ []):E.stamp r q=E.ver r:=by cases q<;>first|rfl|exact absurd rfl h
theorem Mh {t:TV} (hs:∀r,Bw w w' a a' E E' blk blk' r) (h:CI w a E blk t v F U) (hF:∀b∈F,w'.heap[b]?=w.heap[b]?) (hU:∀b∈U,w'.heap[b]?=w.heap[b]?):CI w' a' E' blk' t v F U:=by
 cases t with
 |view r ver q j=>
  obtain⟨rfl,rfl,hv,hc⟩:=h
  rcases(hs r).views with hlt|⟨he,h1,_⟩
  ·exact⟨rfl,rfl,by omega,λe=>by omega⟩
  refine⟨rfl,rfl,by omega,λe=>?_⟩
  grind
 |ptr r ver q j=>
  obtain⟨rfl,rfl,hv,hc⟩:=h
  cases q with
  |nil=>
   simp only[St.stamp]at hv hc
   rcases(hs r).addrs with hlt|⟨he,h2⟩
   ·exact⟨rfl,rfl,by grind [St.stamp],λe=>by grind [St.stamp]⟩
   refine⟨rfl,rfl,by grind [St.stamp],λe=>?_⟩
   grind [St.stamp]
  |cons c q=>
   rw[HJ<|by simp]at hv hc
   rcases(hs r).views with hlt|⟨he,_,h2⟩
   ·exact⟨rfl,rfl,by grind [HJ],λe=>by grind [HJ]⟩
   refine⟨rfl,rfl,by grind [HJ],λe=>?_⟩
   grind [HJ]
 |junk=>exact h
 |int k n=>exact Gm h hF hU
 |bool b=>exact Gm h hF hU
 |str s=>exact Gm h hF hU
 |fn _ _ _=>exact Gm h hF hU
 |adr _=>exact Gm h hF hU
 |hdr _ _ _=>exact Gm h hF hU
 |sl o e sz cells=>exact Gm h hF hU
theorem Nr (hs:∀r,Bw w w' a a' E E' blk blk' r):∀{ts:List TV} {vs:List Value} {F U:List Nat},BG w a E blk ts vs F U->
  (∀b∈F,w'.heap[b]?=w.heap[b]?)->(∀b∈U,w'.heap[b]?=w.heap[b]?)->BG w' a' E' blk' ts vs F U
 |[],_,_,_,h,_,_=>h
 |t::ts,vs,F,U,h,hF,hU=>by
  obtain⟨v,c,F1,F2,U1,U2,rfl,rfl,rfl,h1,h2⟩:=h
  exact⟨v,c,F1,F2,U1,U2,rfl,rfl,rfl,Mh hs h1 (λb hb=>hF b<|B8 _ hb) λb hb=>hU b<|B8 _ hb,
   Nr hs h2 (λb hb=>hF b<|Bq _ hb) (λb hb=>hU b<|Bq _ hb)⟩
mutual
theorem Ek (hs:∀r,Bw w w' a a' E E' blk blk' r):∀{s:SV} {v:Value} {F U:List Nat},GI w a E blk s v F U->
  (∀b∈F,w'.heap[b]?=w.heap[b]?)->(∀b∈U,w'.heap[b]?=w.heap[b]?)->GI w' a' E' blk' s v F U
 | .one t,v,F,U,h,hF,hU=>by
  exact⟨Mh hs h.1 hF hU,h.2⟩
 | .agg cs,v,F,U,h,hF,hU=>by
  obtain⟨vs,rfl,h⟩:=h;exact⟨vs,rfl,Nr hs h hF hU⟩
 | .tup ss,v,F,U,h,hF,hU=>by
  obtain⟨vs,rfl,h⟩:=h;exact⟨vs,rfl,Qc hs h hF hU⟩
theorem Qc (hs:∀r,Bw w w' a a' E E' blk blk' r):∀{ss:List SV} {vs:List Value} {F U:List Nat},OZ w a E blk ss vs F U->
  (∀b∈F,w'.heap[b]?=w.heap[b]?)->(∀b∈U,w'.heap[b]?=w.heap[b]?)->OZ w' a' E' blk' ss vs F U
 |[],_,_,_,h,_,_=>by grind [OZ]
 |s::ss,vs,F,U,h,hF,hU=>by
  obtain⟨v,c,F1,F2,U1,U2,rfl,rfl,rfl,h1,h2⟩:=h
  exact⟨v,c,F1,F2,U1,U2,rfl,rfl,rfl,Ek hs h1 (λb hb=>hF b<|B8 _ hb) λb hb=>hU b<|B8 _ hb,
   Qc hs h2 (λb hb=>hF b<|Bq _ hb) (λb hb=>hU b<|Bq _ hb)⟩
end
def Root.mem:Root->Bool
 | .slot _=>false
 | .hand=>false
 |_=>true
structure Base extends World where
 xb:Nat->Nat
 B:List Nat:=[]
 av:Nat->Value:=λ_=>undef
def mN (w0:Base) (a:Act) (n:Nat):Prop:=if n %2=0 then a.eval (.tmp<|n/2)=w0.av (n/2)else∃B,a.eval (.tmp<|n/2)= .slice B 0 0
theorem mN.same {w0:Base} (h:mN w0 a n) (he:a'.eval (.tmp (n/2))=a.eval (.tmp (n/2))):mN w0 a' n:=by grind [mN]
structure Ca (w0:Base) (FA UA:List Nat) (N:Nat) (w:World) (a:Act) (E:St) (blk:Root->Nat) (FS US:Root->List Nat):Prop where
 slot:∀n,GI w a E blk (E.slots n) (a.eval (.tmp n)) (FS (.slot n)) (US (.slot n))
 box:∀r,r.mem=true->(E.boxes r=none/\FS r=[]/\US r=[])\/∃cs cur T F,E.boxes r=some cs/\w.heap[blk r]?=some (.cells cur T (0,0))/\Bh w cs cur.toList F (US r)/\FS r=blk r::F
 nohand:E.boxes .hand=none
 nodup:∀r,(FS r).Nodup
 dis:∀r s,r≠s->∀b∈FS r,b∉FS s
 disU:∀r s,∀b∈FS r,b∉US s
 inF:∀r,∀b∈FS r,(b∈FA\/w0.heap.size<=b)/\b<w.heap.size
 inU:∀r,∀b∈US r,(b∈UA\/b∈FA\/w0.heap.size<=b)/\b<w.heap.size
 disA:∀b∈FA,b∉UA
 os:w.os=w0.os
 tape:w.tape=w0.tape
 output:w.output=w0.output
 size:w0.heap.size<=w.heap.size
 keep:∀b,b<w0.heap.size->b∉FA->b∉w0.B->w.heap[b]?=w0.heap[b]?
 len:N<=a.tmps.size
 nodef:a.defers=[]
 xblk:∀i,blk (.ext i)=w0.xb i
 ambB:w0.B=E.amb.B
 ambI:E.amb.I w
 frz:∀n,E.fz=some n->mN w0 a n
 ambF:∀b∈w0.B,b<w0.heap.size/\b∉FA/\b∉UA
 pin:∀b,E.amb.pin=some b->w0.xb 0=b.1/\∀v,b.2=some v->w0.av 0=v
theorem IJ (h:d<a.tmps.size):(a.put (some d) v).eval (.tmp d)=v:=by simp_all [Act.put,Act.eval]
theorem Da (h:n≠d):(a.put (some d) v).eval (.tmp n)=a.eval (.tmp n):=by simp_all [Act.put,Act.eval];grind
theorem kN {d:Option Nat}:(E.put d s).amb=E.amb:=by cases d<;>rfl
theorem Nb {d:Option Nat}:(a.put d v).tmps.size=a.tmps.size:=by simp_all [Act.put];grind
theorem JG {d:Option Nat}:(a.put d v).defers=a.defers:=by simp_all [Act.put];grind
theorem Bm [DecidableEq α] (f:α->β) (x:α) (b:β):Bp f x b x=b:=by simp[Bp]
theorem AI {f:α->β} {x y:α} {b:β} [DecidableEq α] (h:y≠x):Bp f x b y=f y:=by simp[Bp,h]
theorem LL {blk:Root->Nat} (h:r≠ .slot d) (c:Nat):Bk w (a.put (some d) v) blk r c=Bk w a blk r c:=by
 cases r with
 |slot n=>grind [Da,Bk]
 |box n=>rfl
 |ext n=>rfl
 |hand=>rfl
theorem f9 {blk blk':Root->Nat} (h:∀c,Bk w a' blk' r c=Bk w a blk r c) (q:List Nat) (j:Nat):pv w a' blk' r q j=pv w a blk r q j:=by simp_all [pv]
theorem XW {blk:Root->Nat} (h:∀c,Bk w a' blk r c=Bk w a blk r c) (q:List Nat) (j:Nat):pa w a' blk r q j=pa w a blk r q j:=by simp_all [pa]
theorem SG (h:r≠ .slot d):(E.put (some d) s).root r=E.root r:=by simp_all [St.root,St.put,Bp];grind
theorem RL (h:r≠ .slot d):(E.put (some d) s).ver r=E.ver r:=by simp[St.put,Bp,h]
theorem OA:(E.put (some d) s).ver (.slot d)=E.ver (.slot d)+1:=by simp[St.put,Bp]
theorem LO {d:Option Nat}:(E.put d s).gen=E.gen:=by cases d<;>rfl
theorem Lr {blk:Root->Nat} (r:Root):Bw w w a (a.put (some d) v) E (E.put (some d) s) blk blk r:=by
 by_cases h:r= .slot d
 ·subst h;refine⟨.inl (by rw[OA];omega),.inr ⟨by rw[LO],λj ad h1 _=>?_⟩⟩;simp[pa]at h1
 have b:∀q j,(E.put (some d) s).place r q j=E.place r q j:=λq j=>by grind [SG,St.place]
 refine⟨.inr ⟨RL h,λq j u h1 h2=>?_,λq j ad _ h1 h2=>?_⟩,.inr ⟨by rw[LO],λj ad h1 h2=>?_⟩⟩
 ·grind [f9,LL]
 ·grind [XW,LL]
 grind [XW,LL]
structure Xh (w0:Base) (FA UA:List Nat) (w:World) (FS US:Root->List Nat) (d:Root) (F U:List Nat):Prop where
 nd:F.Nodup
 f1:∀r,r≠d->∀b∈F,b∉FS r/\b∉US r
 fu:∀b∈F,b∉U
 u1:∀r,r≠d->∀b∈U,b∉FS r
 inF:∀b∈F,(b∈FA\/w0.heap.size<=b)/\b<w.heap.size
 inU:∀b∈U,(b∈UA\/b∈FA\/w0.heap.size<=b)/\b<w.heap.size
theorem Xh.none {d:Root} {w0:Base}:Xh w0 FA UA w FS US d [] []:=
 ⟨Uy,by simp,by simp,by simp,by simp,by simp⟩
theorem Ca.put {w0:Base} {blk:Root->Nat} (h:Ca w0 FA UA N w a E blk FS US) (hd:d<N) (hs:GI w a E blk s v F U) (hf:Xh w0 FA UA w FS US (.slot d) F U):
  Ca w0 FA UA N w (a.put (some d) v) (E.put (some d) s) blk (Bp FS (.slot d) F) (Bp US (.slot d) U) where
 slot:=λn=>by
  by_cases hn:n=d
  ·subst hn;rw[IJ<|BC hd h.len,Bm,Bm];have:(E.put (some n) s).slots n=s:=by simp[St.put,Bp]
   rw[this];exact Ek (λr=>Lr r) hs (λ_ _=>rfl) λ_ _=>rfl
  have c:Root.slot n≠Root.slot d:=λe=>hn<|Root.slot.inj e
  rw[Da hn,AI c,AI c];have:(E.put (some d) s).slots n=E.slots n:=by simp_all [St.put,Bp]
  rw[this];exact Ek (λr=>Lr r) (h.slot n) (λ_ _=>rfl) λ_ _=>rfl
 box:=λr hr=>by
  have c:r≠ .slot d:=by rintro rfl;cases hr
  rw[AI c,AI c];exact h.box r hr
 nohand:=h.nohand
 nodup:=λr=>by
  by_cases hr:r= .slot d
  ·subst hr;rw[Bm];exact hf.nd
  rw[AI hr];exact h.nodup r
 dis:=λr s f b hb=>by
  by_cases hr:r= .slot d
  ·subst hr;rw[Bm]at hb;rw[AI<|If f];exact(hf.f1 s (If f) b hb).1
  rw[AI hr]at hb;by_cases hs:s= .slot d
  ·subst hs;rw[Bm]
   exact λhb'=>(hf.f1 r hr b hb').1 hb
  rw[AI hs];exact h.dis r s f b hb
 disU:=λr s b hb=>by
  by_cases hr:r= .slot d
  ·subst hr;rw[Bm]at hb;by_cases hs:s= .slot d
   ·subst hs;rw[Bm];exact hf.fu b hb
   rw[AI hs];exact(hf.f1 s hs b hb).2
  rw[AI hr]at hb;by_cases hs:s= .slot d
  ·subst hs;rw[Bm];exact λhb'=>hf.u1 r hr b hb' hb
  rw[AI hs];exact h.disU r s b hb
 inF:=λr b hb=>by
  by_cases hr:r= .slot d
  ·subst hr;rw[Bm]at hb;exact hf.inF b hb
  rw[AI hr]at hb;exact h.inF r b hb
 inU:=λr b hb=>by
  by_cases hr:r= .slot d
  ·subst hr;rw[Bm]at hb;exact hf.inU b hb
  rw[AI hr]at hb;exact h.inU r b hb
 disA:=h.disA
 os:=h.os
 tape:=h.tape
 output:=h.output
 size:=h.size
 keep:=h.keep
 len:=by rw[Nb];exact h.len
 nodef:=by rw[JG];exact h.nodef
 xblk:=h.xblk
 ambB:=h.ambB
 ambI:=h.ambI
 frz:=λn hn=>by
  obtain⟨h1,h2⟩:=Tl hn;exact(h.frz n h1).same (Da h2)
 ambF:=h.ambF
 pin:=h.pin
theorem DX {t:TV} (h:DD w t v F U) (ht:∀e sz a,t≠ .sl true e sz a):F=[]:=by
 cases t with
 |sl o e sz a=>
  cases o
  ·grind [DD]
  grind
 |int _ _=>exact h.2.1
 |bool _=>exact h.2.1
 |str _=>exact h.2.1
 |fn _ _ _=>exact h.2.1
 |adr _=>exact h.2.1
 |hdr _ _ _=>exact h.2.1
 |junk=>exact h.2.1
 |view _ _ _ _=>grind [DD]
 |ptr _ _ _ _=>grind [DD]
theorem VV {t:TV} (h:CI w a E blk t v F U) (hp:∀e sz d,t= .sl true e sz d->pv w a blk r q c=some v/\E.place r q c=some t):
  ∃U',CI w a E blk (nT E r q c t) v [] U'/\∀b∈U',b∈U:=by
 cases t with
 |sl o e sz d=>
  cases o
  ·have hF:=DX h (by simp);subst hF;exact⟨U,h,λ_ hb=>hb⟩
  obtain⟨h1,h2⟩:=hp e sz d rfl;exact⟨[],⟨rfl,rfl,A5 _,λ_=>⟨h1,by rw[h2];rfl⟩⟩,by simp⟩
 |int _ _=>
  have hF:=DX h (by simp);subst hF;exact⟨U,h,λ_ hb=>hb⟩
 |bool _=>
  have hF:=DX h (by simp);subst hF;exact⟨U,h,λ_ hb=>hb⟩
 |str _=>
  have hF:=DX h (by simp);subst hF;exact⟨U,h,λ_ hb=>hb⟩
 |fn _ _ _=>
  have hF:=DX h (by simp);subst hF;exact⟨U,h,λ_ hb=>hb⟩
 |adr _=>
  have hF:=DX h (by simp);subst hF;exact⟨U,h,λ_ hb=>hb⟩
 |hdr _ _ _=>
  have hF:=DX h (by simp);subst hF;exact⟨U,h,λ_ hb=>hb⟩
 |junk=>exact⟨[],⟨rfl,rfl⟩,by simp⟩
 |view r ver q j=>
  obtain⟨rfl,rfl,h⟩:=h;exact⟨[],⟨rfl,rfl,h⟩,by simp⟩
 |ptr r ver q j=>
  obtain⟨rfl,rfl,h⟩:=h;exact⟨[],⟨rfl,rfl,h⟩,by simp⟩
theorem Pi {r:Root} {q:List Nat}:∀{ts:List TV} {vs:List Value} {F U:List Nat} (c:Nat),BG w a E blk ts vs F U->
  (∀i t v,ts[i]?=some t->vs[i]?=some v->∀e sz d,t= .sl true e sz d->pv w a blk r q (c+i)=some v/\E.place r q (c+i)=some t)->
  ∃U',BG w a E blk (Qi E r q c ts) vs [] U'/\∀b∈U',b∈U
 |[],vs,F,U,c,h,_=>by
  obtain⟨rfl,rfl,rfl⟩:=h;exact⟨[],⟨rfl,rfl,rfl⟩,by simp⟩
 |t::ts,vs,F,U,c,h,hp=>by
  obtain⟨v,f,F1,F2,U1,U2,rfl,rfl,rfl,h1,h2⟩:=h;obtain⟨Ua,ha,g⟩:=VV (r:=r) (q:=q) (c:=c) h1 λe sz d he=>by simpa using hp 0 t v rfl rfl e sz d he
  obtain⟨Ub,hb,j⟩:=Pi (r:=r) (q:=q) (c+1) h2 (λi t' v' hi hv e sz d he=>by
   have:=hp (i+1) t' v' (by simpa using hi) (by simpa using hv) e sz d he
   grind)
  refine⟨Ua++Ub,⟨v,f,[],[],Ua,Ub,rfl,rfl,rfl,ha,hb⟩,λb hb=>?_⟩
  grind
theorem JR {blk:Root->Nat}:∀{ts:List TV} {vs:List Value} {F U:List Nat},BG w a E blk ts vs F U->vs.length=ts.length
 |[],_,_,_,h=>by obtain⟨rfl,_⟩:=h;rfl
 |t::ts,vs,F,U,h=>by
  obtain⟨v,b,F1,F2,U1,U2,rfl,_,_,_,h2⟩:=h;simp[JR h2]
theorem VB {x:TV} (h:NU P t v=some x):DD w x v [] []/\v.cells= #[v]:=by
 unfold NU at h;split at h
 ·injection h with h;subst h;exact⟨by simp[DD],rfl⟩
 ·injection h with h;subst h;exact⟨by simp[DD],rfl⟩
 ·injection h with h;subst h;exact⟨by simp[DD],rfl⟩
 ·split at h
  ·injection h with h
   subst h;refine⟨?_,rfl⟩;exact⟨0,[],[],World.ownsRow_nil w 0 _ _,by simp[Bh],by rfl⟩
  cases h
 cases h
theorem FR {t:TV} (h:DD w t v F U):CI w a E blk t v F U:=by
 cases t with
 |view _ _ _ _=>grind [DD]
 |ptr _ _ _ _=>grind [DD]
 |junk=>exact h.2
 |int _ _=>exact h
 |bool _=>exact h
 |str _=>exact h
 |fn _ _ _=>exact h
 |adr _=>exact h
 |hdr _ _ _=>exact h
 |sl _ _ _ _=>exact h
theorem IY {w0:Base} {o:Operand} (h:Ca w0 FA UA N w a E blk FS US) (hv:E.val P t o=some s):
  ∃U,GI w a E blk s (a.eval o) [] U/\∀b∈U,∃r,b∈US r:=by
 unfold St.val at hv;split at hv
 ·rename_i n;have hs:=h.slot n;split at hv
  ·rename_i x hx
   injection hv with hv
   subst hv;rw[hx]at hs;obtain⟨hc,hj⟩:=hs
   obtain⟨U',h1,h2⟩:=VV (r:= .slot n) (q:=[]) (c:=0) hc (λe sz cells he=>by
    subst he;refine⟨?_,?_⟩
    ·simp[pv,Bk,hj rfl]
    grind [St.place,St.root,SV.cells,Bg])
   refine⟨U',?_,λb hb=>⟨_,h2 b hb⟩⟩;refine⟨h1,λd=>?_⟩
   grind [nT,TV.isJunk]
  ·rename_i cs hx
   injection hv with hv
   subst hv;rw[hx]at hs;obtain⟨vs,f,hc⟩:=hs;obtain⟨U',h1,h2⟩:=Pi (r:= .slot n) (q:=[]) 0 hc (λi t' v' hi hv' e sz cells he=>by grind [pv,Bk,Value.cells,St.place,St.root,SV.cells,Bg]);simp_all [GI];grind
  cases hv
 ·rename_i v;obtain⟨x,hx,rfl⟩:=A9.1 hv;obtain⟨h1,h2⟩:=VB (w:=w) hx;refine⟨[],?_,by simp⟩;simp only[GI];exact⟨FR h1,λ_=>h2⟩
 cases hv
theorem Jt {w0:Base} (h:Ca w0 FA UA N w a E blk FS US) (hU:∀b∈U,∃r,b∈US r) (d:Root):Xh w0 FA UA w FS US d [] U where
 nd:=Uy
 f1:=by simp
 fu:=by simp
 u1:=λr _ b hb hb'=>by
  obtain⟨s,hs⟩:=hU b hb;exact h.disU r s b hb' hs
 inF:=by simp
 inU:=λb hb=>by
  obtain⟨s,hs⟩:=hU b hb;exact h.inU s b hs
def TV.toV:TV->Option Value
 | .int k n=>some (.int k n)
 | .bool b=>some (.bool b)
 | .str s=>some (.string s)
 |_=>none
def iB (op:BinOp) (k:IntKind) (a b:Int):Option TV:=match op with
 | .add=>some<|.int k<|k.wrap<|a+b
 | .sub=>some<|.int k<|k.wrap<|a-b
 | .mul=>some<|.int k<|k.wrap<|a*b
 | .quo=>if b=0 then none else some<|.int k<|k.wrap<|a.tdiv b
 | .rem=>if b=0 then none else some<|.int k<|a.tmod b
 | .and=>some<|.int k<|k.wrap (BitVec.ofInt k.bits a&&&BitVec.ofInt k.bits b).toNat
 | .or=>some<|.int k<|k.wrap (BitVec.ofInt k.bits a|||BitVec.ofInt k.bits b).toNat
 | .xor=>some<|.int k<|k.wrap (BitVec.ofInt k.bits a^^^BitVec.ofInt k.bits b).toNat
 | .eql=>some<|.bool<|a==b
 | .neq=>some<|.bool<|a !=b
 | .lss=>some<|.bool<|decide<|a<b
 | .leq=>some<|.bool<|decide<|a<=b
 | .gtr=>some<|.bool<|decide<|a>b
 | .geq=>some<|.bool<|decide<|a>=b
 |_=>none
def TD (op:BinOp) (x y:TV):Option TV:=match x,y with
 | .int k a,.int k' b=>match op with
  | .shl=>if b<0 then none else some<|.int k<|k.wrap<|a*2^(min b.toNat k.bits)
  | .shr=>if b<0 then none else some<|.int k<|a.fdiv<|2^(min b.toNat k.bits)
  |op=>if k=k' then iB op k a b else none
 | .str a,.str b=>match op with
  | .add=>if((a.size+b.size:Nat):Int)>9223372036854775807 then none else some<|.str<|a++b
  | .eql=>some<|.bool<|a.toList==b.toList
  | .neq=>some<|.bool<|!(a.toList==b.toList)
  | .lss=>some<|.bool<|Op.bytesLess a.toList b.toList
  |_=>none
 | .bool a,.bool b=>match op with
  | .eql=>some<|.bool<|a==b
  | .neq=>some<|.bool<|!(a==b)
  |_=>none
 |_,_=>none
theorem cY {ox oy:Operand} {x:TV} {vy:Value} (h:TD op x y=some z) (hb:∀b,x= .bool b->P.underlying t=some .bool) (hx:x.toV=some vx) (hy:y.toV=some vy):
  ∃vz,z.toV=some vz/\∀W:World,(do eqGuard op t ox oy vx vy;Go.binOp op t vx vy:Sem Value).run P W= .ok vz W:=by
 cases x<;>simp only[TV.toV,An,reduceCtorEq]at hx<;>subst hx<;>cases y<;>simp only[TV.toV,An,reduceCtorEq]at hy<;>subst hy<;>simp only[TD,reduceCtorEq]at h
 ·cases op<;>simp only[iB,reduceCtorEq,ite_eq_left_iff,Option.ite_none_left_eq_some,Option.ite_none_right_eq_some,An]at h
  all_goals first
   |(obtain⟨rfl,h0,rfl⟩:=h;refine⟨_,rfl,λW=>?_⟩;simp[eqGuard,Go.binOp,Op.intArith,Op.intDiv,Op.intBits,Op.intCmp,h0];done)
   |(obtain⟨rfl,rfl⟩:=h;refine⟨_,rfl,λW=>?_⟩;simp[eqGuard,Go.binOp,Op.intArith,Op.intDiv,Op.intBits,Op.intCmp];done)
   |(obtain⟨h0,rfl⟩:=h;refine⟨_,rfl,λW=>?_⟩;simp[eqGuard,Go.binOp,Op.shift,h0];done)
   |(simp at h;done)
   |skip
 ·rename_i a b;have ht:=hb a rfl;cases op<;>simp only[reduceCtorEq,An]at h
  all_goals first
   |(subst h;refine⟨_,rfl,λW=>?_⟩;simp[eqGuard,Go.binOp,Op.equal,Op.maxDepth,run_equalIn_bool',ht];done)
   |skip
 rename_i a b;cases op<;>simp only[reduceCtorEq,Option.ite_none_left_eq_some,An]at h
 all_goals first
  |(obtain⟨h0,rfl⟩:=h;refine⟨_,rfl,λW=>?_⟩;have h1:¬(((a.size+b.size:Nat):Int)>IntKind.i64.max):=h0;simp only[eqGuard,Go.binOp,Op.stringOp,AA h1];rfl)
  |(subst h;refine⟨_,rfl,λW=>?_⟩;rfl)
  |skip
def j8 (op:UnOp) (x:TV):Option TV:=match op,x with
 | .neg,.int k n=>some<|.int k<|k.wrap<|0-n
 | .not,.bool b=>some<|.bool<|!b
 | .xor,.int k n=>some<|.int k<|k.wrap (BitVec.ofInt k.bits (if k.signed then-1 else k.max)^^^BitVec.ofInt k.bits n).toNat
 |_,_=>none
theorem fS {op:UnOp} {x:TV} (h:j8 op x=some z) (hx:x.toV=some vx):
  ∃vz,z.toV=some vz/\∀W:World,(Op.unary op vx).run P W= .ok vz W:=by
 cases op<;>cases x<;>simp only[j8,reduceCtorEq,An]at h<;>subst h<;>simp only[TV.toV,An]at hx<;>subst hx<;>exact⟨_,rfl,λW=>by rfl⟩
theorem T6:∀{ts:List TV} {vs:List Value} {F U:List Nat} (c:Nat) {t:TV},BG w a E blk ts vs F U->ts[c]?=some t->
  ∃v F1 U1,vs[c]?=some v/\CI w a E blk t v F1 U1/\(∀b∈F1,b∈F)/\(∀b∈U1,b∈U)
 |[],_,_,_,c,t,_,hc=>by simp at hc
 |t0::ts,vs,F,U,0,t,h,hc=>by
  obtain⟨v,d,F1,F2,U1,U2,rfl,rfl,rfl,h1,_⟩:=h
  grind
 |t0::ts,vs,F,U,c+1,t,h,hc=>by
  obtain⟨v,d,F1,F2,U1,U2,rfl,rfl,rfl,_,h2⟩:=h;simp at hc;obtain⟨u,G,V,h3,h4,h5,h6⟩:=T6 c h2 hc
  grind
theorem aZ {w0:Base} {o:Bool} (h:Ca w0 FA UA N w a E blk FS US) {cs:List TV} {cells:List TV} (hr:E.root r=some cs) (hc:cs[c]?=some (.sl o e sz cells)):
  ∃v F1 U1,Bk w a blk r c=some v/\DD w (.sl o e sz cells) v F1 U1/\(∀b∈F1,b∈FS r)/\(∀b∈U1,b∈US r):=by
 have d:∀r,r.mem=true->E.boxes r=some cs->∃v F1 U1,w.cell? ((⟨blk r,0,none⟩:Addr).add c)=some v/\DD w (.sl o e sz cells) v F1 U1/\(∀b∈F1,b∈FS r)/\(∀b∈U1,b∈US r):=by
  intro r hm hr
  rcases h.box r hm with⟨h1,_⟩|⟨cs',g,T,F,h1,h2,h3,h4⟩
  ·grind
  rw[h1]at hr
  injection hr with hr
  subst hr
  grind [Fz,World.cell?,Addr.add]
 cases r with
 |slot n=>
  have hs:=h.slot n;simp only[St.root,An]at hr
  cases f:E.slots n with
  |one t=>
   rw[f]at hs hr;simp only[SV.cells]at hr;subst hr;obtain⟨hx,hj⟩:=hs
   cases c with
   |succ c=>simp at hc
   |zero=>
    simp at hc;subst hc;exact⟨_,_,_,by simp[Bk,hj rfl],hx,λ_ hb=>hb,λ_ hb=>hb⟩
  |agg ts=>
   rw[f]at hs hr;subst hr;obtain⟨vs,i,hx⟩:=hs;obtain⟨v,F1,U1,h1,h2,h3,h4⟩:=T6 c hx hc;exact⟨v,F1,U1,by grind [Bk,Value.cells],h2,h3,h4⟩
  |tup ss=>grind [SV.cells]
 |box n=>exact d (.box n) rfl hr
 |ext n=>exact d (.ext n) rfl hr
 |hand=>simp only[St.root,h.nohand,reduceCtorEq]at hr
theorem LP {w0:Base} (h:Ca w0 FA UA N w a E blk FS US) {cs:List TV} {f:List TV} (hr:E.root r=some cs) (hc:Bg cs (c::q)=some f):
  ∃rvs F1 U1,Bh w f rvs F1 U1/\(∀b∈F1,b∈FS r)/\(∀b∈U1,b∈US r)/\
   ∃hv,Bk w a blk r c=some hv/\∀j u,rvs[j]?=some u->∃ad,∀w2:World,(∀b∈FS r,w2.heap[b]?=w.heap[b]?)->(∀b∈US r,w2.heap[b]?=w.heap[b]?)->K1 w2 hv q=some ad/\w2.cell? (ad.add j)=some u:=by
 simp only[Bg]at hc;split at hc
 ·rename_i o e sz d g;obtain⟨v,F1,U1,h1,h2,h3,h4⟩:=aZ h hr g;have h5:Bh w [.sl o e sz d] [v] F1 U1:=by simp_all [Bh];grind
  have h6:Bg [.sl o e sz d] (0::q)=some f:=by grind [Bg]
  obtain⟨rvs,F2,U2,h7,h8,h9,hv,h10,h11⟩:=T1 (0::q) h5 h6;simp at h10;subst h10;refine⟨rvs,F2,U2,h7,λb hb=>h3 b<|h8 b hb,λb hb=>h4 b<|h9 b hb,v,h1,λj u hj=>?_⟩;obtain⟨ad,hk⟩:=h11 j u hj;exact⟨ad,λw2 hA hC=>hk w2 (λb hb=>hA b<|h3 b hb) λb hb=>hC b<|h4 b hb⟩
 cases hc
theorem dD {w0:Base} (h:Ca w0 FA UA N w a E blk FS US) {ad:Addr} {cs e:List TV} (hr:E.root r=some cs) (hc:Bg cs q=some e) (hp:pa w a blk r q j=some ad):
  ∃rvs F1 U1,Bh w e rvs F1 U1/\(∀b∈F1,b∈FS r)/\(∀b∈U1,b∈US r)/\
   ∀i u,rvs[j+i]?=some u->pv w a blk r q (j+i)=some u/\∀w2:World,(∀b∈FS r,w2.heap[b]?=w.heap[b]?)->(∀b∈US r,w2.heap[b]?=w.heap[b]?)->w2.cell? (ad.add i)=some u:=by
 have g:∀(x:Addr) (m n:Nat),(x.add m).add n=x.add (m+n):=by grind [Addr.add]
 cases q with
 |nil=>
  simp only[Bg,An]at hc;subst hc;have d:∀r:Root,r.mem=true->E.boxes r=some cs->∃rvs F1 U1,Bh w cs rvs F1 U1/\(∀b∈F1,b∈FS r)/\(∀b∈U1,b∈US r)/\
    ∀i u,rvs[j+i]?=some u->w.cell? ((⟨blk r,0,none⟩:Addr).add<|j+i)=some u/\∀w2:World,(∀b∈FS r,w2.heap[b]?=w.heap[b]?)->w2.cell? (((⟨blk r,0,none⟩:Addr).add j).add i)=some u:=by
   intro r hm hr
   rcases h.box r hm with⟨h1,_⟩|⟨cs',f,T,F,h1,h2,h3,h4⟩
   ·grind
   rw[h1]at hr
   injection hr with hr
   subst hr;refine⟨f.toList,F,US r,h3,λb hb=>by grind,λ_ hb=>hb,λi u hu=>?_⟩
   grind [World.cell?,Addr.add]
  cases r with
  |slot n=>simp[pa]at hp
  |box n=>
   simp only[pa,An]at hp;subst hp;obtain⟨rvs,F1,U1,h1,h2,h3,h4⟩:=d (.box n) rfl hr;exact⟨rvs,F1,U1,h1,h2,h3,λi u hu=>⟨(h4 i u hu).1,λw2 hA _=>(h4 i u hu).2 w2 hA⟩⟩
  |ext n=>
   simp only[pa,An]at hp;subst hp;obtain⟨rvs,F1,U1,h1,h2,h3,h4⟩:=d (.ext n) rfl hr;exact⟨rvs,F1,U1,h1,h2,h3,λi u hu=>⟨(h4 i u hu).1,λw2 hA _=>(h4 i u hu).2 w2 hA⟩⟩
  |hand=>simp only[St.root,h.nohand,reduceCtorEq]at hr
 |cons c q=>
  obtain⟨rvs,F1,U1,h1,h2,h3,hv,h4,h5⟩:=LP h hr hc
  grind [pa,pv]
def St.ptr? (E:St):Operand->Option (Root×List Nat×Nat)
 | .tmp n=>match E.slots n with
  | .one (.ptr r v q j)=>if E.stamp r q=v then some (r,q,j)else none
  |_=>none
 |_=>none
def St.ref (E:St):Operand->Option (Root×List Nat×Nat)
 | .tmp n=>match E.slots n with
  | .one (.sl ..)=>some (.slot n,[],0)
  | .one (.view r v q j)=>if E.ver r=v then some (r,q,j)else none
  |_=>none
 |_=>none
def WY (P:Program) (t:TypeId):Bool:=match P.underlying t with
 |some (.struct _)|some (.array _ _)=>true
 |_=>false
def St.cell1 (P:Program) (E:St) (t:TypeId) (o:Operand):Option TV:=match E.val P t o with
 |some (.one x)=>some x
 |_=>none
def St.sliceCells (E:St) (o:Operand):Option (Nat×List TV):=match E.ref o with
 |some (r,q,j)=>match E.place r q j with
  |some (.sl _ _ sz cells)=>some (sz,cells)
  |_=>none
 |none=>none
def TC (P:Program) (t:TypeId):TV->Bool
 | .bool _=>match P.underlying t with
  |some .bool=>true
  |_=>false
 |_=>true
theorem Y8 (P:Program) (h:TC P t (.bool b)=true):P.underlying t=some .bool:=by grind [TC]
def K0 (P:Program) (E:St):Builtin->List Operand->List TypeId->Option SV
 | .len,[x],[t]=>match P.underlying t with
  |some .string=>match E.cell1 P t x with
   |some (.str s)=>some (.one (.int .i64 s.size))
   |_=>none
  |some (.slice _)=>match E.sliceCells x with
   |some (sz,cells)=>if 0<sz then some (.one (.int .i64 (cells.length/sz:Nat)))else none
   |none=>none
  |_=>none
 | .min,[x,y],[t,_]=>match E.cell1 P t x,E.cell1 P t y with
  |some (.int k a),some (.int _ b)=>some (.one (.int k (if b<a then b else a)))
  |_,_=>none
 | .max,[x,y],[t,_]=>match E.cell1 P t x,E.cell1 P t y with
  |some (.int k a),some (.int _ b)=>some (.one (.int k (if b>a then b else a)))
  |_,_=>none
 |_,_,_=>none
def Kz:List TV->Option (List Int)
 |[]=>some []
 | .int .u8 n::ts=>(Kz ts).map (n::·)
 |_=>none
def AF (P:Program) (E:St) (o:Oper):Option SV:=match o.op with
 | .move x=>E.val P o.type x
 | .assign x=>E.val P o.type x
 | .nilCheck x=>match E.ptr? x with
  |some _=>E.val P o.type x
  |none=>none
 | .pick c x y=>match E.cell1 P 0 c with
  |some (.bool true)=>E.val P o.type x
  |some (.bool false)=>E.val P o.type y
  |_=>none
 | .binOp op t x y _=>match E.cell1 P t x,E.cell1 P t y with
  |some x,some y=>if TC P t x=true then(TD op x y).map .one else none
  |_,_=>none
 | .unOp op t x=>match E.cell1 P t x with
  |some x=>(j8 op x).map .one
  |none=>none
 | .convert src dst x=>match P.underlying src,P.underlying dst,E.cell1 P src x with
  |some (.int _),some<|.int k,some (.int _ n)=>some<|.one<|.int k<|k.wrap n
  |some (.slice e),some .string,_=>match P.underlying e,E.ref x with
   |some (.int .u8),some (r,q,j)=>match E.place r q j with
    |some (.sl _ _ sz cells)=>if sz=1 then(Kz cells).map λl=> .one (.str<|strOfNums l)else none
    |_=>none
   |_,_=>none
  |_,_,_=>none
 | .fieldAddr s x f=>match P.underlying s,E.ptr? x with
  |some (.struct fs),some (r,q,j)=>match fs[f]? with
   |some fd=>if P.cellsOf fd.type=0 then none else if(E.place r q<|j+fd.offset).isSome=true then some (.one<|.ptr r (E.stamp r q) q<|j+fd.offset)else none
   |none=>none
  |_,_=>none
 | .indexAddr t x i=>match P.underlying t,E.cell1 P 0 i with
  |some (.slice e),some (.int _ n)=>match E.ref x with
   |some (r,q,j)=>match E.place r q j with
    |some (.sl _ _ sz cells)=>if sz=P.cellsOf e/\0<sz/\0<=n/\(n.toNat+1)*sz<=cells.length then some (.one<|.ptr r (E.ver r) (q++ [j])<|n.toNat*sz)else none
    |_=>none
   |none=>none
  |some (.array len e),some (.int _ n)=>match E.ptr? x with
   |some (r,q,j)=>if 0<P.cellsOf e/\0<=n/\n<len/\(E.place r q<|j+n.toNat*P.cellsOf e).isSome=true then some (.one<|.ptr r (E.stamp r q) q<|j+n.toNat*P.cellsOf e)else none
   |none=>none
  |_,_=>none
 | .load t x=>match E.ptr? x with
  |some (r,q,j)=>match(E.root r).bind λcs=>Bg cs q with
   |some row=>if j+P.cellsOf t<=row.length then
     (if WY P t then some (.agg<|Qi E r q j<|(row.drop j).take<|P.cellsOf t) else if P.cellsOf t=1/\(P.underlying t).isSome=true then(row[j]?).map λx=> .one (nT E r q j x)else none) else none
   |none=>none
  |none=>none
 | .index t x i=>match P.underlying t,E.cell1 P t x,E.cell1 P 0 i with
  |some .string,some<|.str s,some (.int _ n)=>if 0<=n/\n<s.size then some (.one<|.int .u8<|bt s n)else none
  |_,_,_=>none
 | .slice t x lo hi none=>match P.underlying t,E.cell1 P t x with
  |some .string,some (.str s)=>match(match lo with|some o=>E.cell1 P 0 o|none=>some<|.int .i64 0),(match hi with|some o=>E.cell1 P 0 o|none=>some<|.int .i64 s.size)with
   |some (.int _ l),some (.int _ h)=>if 0<=l/\l<=h/\h<=s.size then some (.one<|.str<|s.extract l.toNat h.toNat)else none
   |_,_=>none
  |some (.slice e),_=>match E.ref x with
   |some (r,q,j)=>match E.place r q j with
    |some (.sl false e' sz cells)=>match(match lo with|some o=>E.cell1 P 0 o|none=>some<|.int .i64 0),(match hi with|some o=>E.cell1 P 0 o|none=>some<|.int .i64 (cells.length/sz:Nat))with
     |some (.int _ l),some (.int _ h)=>if sz=P.cellsOf e/\0<sz/\0<=l/\l<=h/\h.toNat*sz<=cells.length then some (.one<|.sl false e' sz<|(cells.drop<|l.toNat*sz).take<|(h.toNat-l.toNat)*sz)else none
     |_,_=>none
    |_=>none
   |none=>none
  |_,_=>none
 | .call c=>match c.callee with
  | .builtin b=>K0 P E b c.args.toList c.argTypes.toList
  |_=>none
 |_=>none
where
 bt (s:ByteArray) (i:Int):Int:=if h:i.toNat<s.size then((s[i.toNat]'h).toNat:Int)else 0
theorem WZ (x:Addr) (m n:Nat):(x.add m).add n=x.add (m+n):=by
 unfold Addr.add
 grind
theorem Oo {ad2:Addr}:∀{q:List Nat} {ad ad1:Addr},FC w ad q=some ad1->w.cell? (ad1.add j)=some (.slice (some ad2) n c)->FC w ad (q++ [j])=some ad2
 |[],ad,ad1,h1,h2=>by grind [FC]
 |c'::q,ad,ad1,h1,h2=>by
  simp only[FC,BV]at h1⊢;split at h1
  ·exact Oo h1 h2
  cases h1
theorem bH {blk:Root->Nat} {ad:Addr} (h:pv w a blk r q j=some (.slice (some ad) n c)):pa w a blk r (q++ [j]) i=some (ad.add i):=by
 cases q with
 |nil=>grind [pv,pa,K1,FC]
 |cons c' q=>
  simp only[pa,BV];obtain⟨v,h1,h⟩:=Aj.1 h;obtain⟨ad1,h2,h3⟩:=Aj.1 h;rw[h1];simp only[Aa];cases v<;>simp only[K1,reduceCtorEq]at h2
  grind [Oo,K1]
theorem Ib {w0:Base} {o:Operand} {x:TV} (h:Ca w0 FA UA N w a E blk FS US) (hv:E.cell1 P t o=some x):
 ∃U,CI w a E blk x (a.eval o) [] U/\(∀b∈U,∃r,b∈US r)/\(x.isJunk=false->(a.eval o).cells= #[a.eval o]):=by grind [IY,St.cell1,GI]
theorem CK {w0:Base} {o:Operand} {k:IntKind} {n:Int} (h:Ca w0 FA UA N w a E blk FS US) (hv:E.cell1 P t o=some (.int k n)):a.eval o= .int k n:=by
 obtain⟨U,h1,_⟩:=Ib h hv;exact h1.1
theorem NW {w0:Base} {o:Operand} {s:ByteArray} (h:Ca w0 FA UA N w a E blk FS US) (hv:E.cell1 P t o=some (.str s)):a.eval o= .string s:=by
 obtain⟨U,h1,_⟩:=Ib h hv;exact h1.1
theorem JS {w0:Base} {o:Operand} (h:Ca w0 FA UA N w a E blk FS US) (hv:E.cell1 P t o=some (.bool b)):a.eval o= .bool b:=by
 obtain⟨U,h1,_⟩:=Ib h hv;exact h1.1
theorem Q7 {w0:Base} {o:Operand} {x:TV} {z:Value} (h:Ca w0 FA UA N w a E blk FS US) (hv:E.cell1 P t o=some x) (hx:x.toV=some z):a.eval o=z:=by
 cases x<;>simp only[TV.toV,An,reduceCtorEq]at hx<;>subst hx
 ·exact CK h hv
 ·exact JS h hv
 exact NW h hv
theorem Kr {w0:Base} {o:Operand} (h:Ca w0 FA UA N w a E blk FS US) (hv:E.ptr? o=some (r,q,j)):(E.place r q j).isSome=true/\∃ad,pa w a blk r q j=some ad/\a.eval o= .pointer (some ad):=by
 unfold St.ptr? at hv;split at hv
 ·rename_i n;split at hv
  ·rename_i r' v q' j' hs;split at hv
   ·rename_i he;obtain⟨rfl,rfl,rfl⟩:=hv;have:=h.slot n;rw[hs]at this;exact this.1.2.2.2 he
   cases hv
  cases hv
 cases hv
theorem Pu {w0:Base} {o:Operand} (h:Ca w0 FA UA N w a E blk FS US) (hv:E.ref o=some (r,q,j)):pv w a blk r q j=some (a.eval o):=by
 unfold St.ref at hv;split at hv
 ·rename_i n;split at hv
  ·rename_i e1 e2 e3 e4 hs;obtain⟨rfl,rfl,rfl⟩:=hv;have:=h.slot n;rw[hs]at this;simp[pv,Bk,this.2 rfl]
  ·rename_i r' v q' j' hs;split at hv
   ·rename_i he;have:=h.slot n
    grind [GI,CI]
   cases hv
  cases hv
 cases hv
theorem JI {w0:Base} {o:Bool} (h:Ca w0 FA UA N w a E blk FS US) {d:List TV} (hp:E.place r q j=some (.sl o e sz d)) (hv:pv w a blk r q j=some v):
  ∃F U,DD w (.sl o e sz d) v F U/\(∀b∈F,b∈FS r)/\(∀b∈U,b∈US r):=by
 obtain⟨cs,hr,hp⟩:=Aj.1 hp;obtain⟨f,hc,hj⟩:=Aj.1 hp
 cases q with
 |nil=>grind [aZ,Bg,pv]
 |cons c q=>
  obtain⟨rvs,F1,U1,h1,h2,h3,g,h4,h5⟩:=LP h hr hc;obtain⟨v',A,B,C,D,F2,U2,h6,h7,rfl,rfl,_⟩:=Fz j h1 hj;obtain⟨ad,hk⟩:=h5 j v' h6;obtain⟨h8,h9⟩:=hk w (λ_ _=>rfl) λ_ _=>rfl;simp only[pv,h4,Aa,h8,h9,An]at hv
  grind
theorem Na {o:Bool} {a:List TV} (h:DD w (.sl o e sz a) v F U):
  ∃A n c,v= .slice A n c/\n*sz=a.length/\(0<a.length->∃ad,A=some ad):=by
 cases o
 ·obtain⟨A,n,c,vs,U',B,rfl,hn,hl,b,hr,_,_,_⟩:=h;have:=Cl hr;refine⟨A,n,c,rfl,by omega,λhp=>?_⟩;have h0:0<vs.length:=by omega
  obtain⟨ad,m,k,he,_⟩:=b 0 _<|Ab h0
  grind
 obtain⟨n,vs,F',ho,hr,_⟩:=h;have:=Cl hr;have h2:=ho.1
 rcases ho.2 with⟨rfl,rfl⟩|⟨g,d,f,rfl,_⟩
 ·grind
 grind
def Pv (E:St) (o:Oper):Option Root:=match o.op with
 | .load _ x=>(E.ptr? x).map (·.1)
 | .convert _ _ x=>(E.ref x).map (·.1)
 |_=>none
def jB (P:Program) (FS US:Root->List Nat) (w:World) (a:Act) (E:St) (o:Oper) (v:Value):Prop:=∀w2:World,(∀r,Pv E o=some r->(∀b∈FS r,w2.heap[b]?=w.heap[b]?)/\∀b∈US r,w2.heap[b]?=w.heap[b]?)->(execOp a.eval o).run P w2= .ok (.value v) w2
def Dt (P:Program) (w:World) (a:Act) (E:St) (blk:Root->Nat) (FS US:Root->List Nat) (o:Oper) (s:SV):Prop:=∃v U,jB P FS US w a E o v/\GI w a E blk s v [] U/\∀b∈U,∃r,b∈US r
theorem Z0 {blk:Root->Nat} (h:z.toV=some v):GI w a E blk (.one z) v [] []:=by
 cases z<;>simp only[TV.toV,An,reduceCtorEq]at h<;>subst h<;>simp[GI,CI,DD,Value.cells]
theorem P2 {blk:Root->Nat} {ad:Addr} (hq:(E.place r q j).isSome=true) (h:pa w a blk r q j=some ad):GI w a E blk (.one (.ptr r (E.stamp r q) q j)) (.pointer (some ad)) [] []:=by
 exact⟨⟨by trivial,by trivial,A5 _,λ_=>⟨hq,ad,h,rfl⟩⟩,λ_=>rfl⟩
theorem gE {k:Nat} {blk:Root->Nat} {ad:Addr} (h:pa w a blk r q j=some ad):pa w a blk r q (j+k)=some (ad.add k):=by
 cases q with
 |nil=>
  cases r<;>simp only[pa,reduceCtorEq,An]at h⊢<;>subst h<;>rw[WZ]
 |cons c q=>
  simp only[pa]at h⊢;obtain⟨v,h1,h⟩:=Aj.1 h
  grind [A9,WZ]
theorem Q5:∀{q:List Nat} {cs b:List TV} {j:Nat} {o:Bool} {e sz:Nat} {a:List TV},Bg cs q=some b->b[j]?=some (.sl o e sz a)->Bg cs (q++ [j])=some a
 |[],cs,b,j,o,e,sz,a,h,hj=>by grind [Bg]
 |c::q,cs,b,j,o,e,sz,a,h,hj=>by
  simp only[Bg,BV]at h⊢;split at h
  ·exact Q5 h hj
  cases h
theorem Zw {o:Bool} {a:List TV} (h:E.place r q j=some (.sl o e sz a)) (hi:i<a.length):(E.place r (q++ [j]) i).isSome=true:=by
 obtain⟨cs,h1,h⟩:=Aj.1 h;obtain⟨b,h2,h3⟩:=Aj.1 h;simp[St.place,h1,Q5 h2 h3,hi]
theorem Gr (h:P.cellsOf t≠0):∃i,P.info? t=some i/\i.size=P.cellsOf t:=by
 unfold Program.cellsOf at h⊢
 cases hi:P.info? t with
 |none=>simp[hi]at h
 |some i=>grind
theorem Sd {w0:Base} (h:Ca w0 FA UA N w a E blk FS US) (hv:E.val P t x=some s) (b:∀w2:World,(execOp a.eval o).run P w2= .ok (.value (a.eval x)) w2):Dt P w a E blk FS US o s:=by
 obtain⟨U,h1,h2⟩:=IY h hv;exact⟨a.eval x,U,λw2 _=>b w2,h1,h2⟩
theorem FI (hz:z.toV=some v) (b:∀w2:World,(execOp a.eval o).run P w2= .ok (.value v) w2):Dt P w a E blk FS US o (.one z):=
 ⟨v,[],λw2 _=>b w2,Z0 hz,by simp⟩
theorem kW {w0:Base} (h:Ca w0 FA UA N w a E blk FS US) (ho:o.op= .move x) (hp:AF P E o=some s):Dt P w a E blk FS US o s:=by
 simp only[AF,ho]at hp;exact Sd h hp λw2=>by simp[execOp,ho]
theorem dH {w0:Base} (h:Ca w0 FA UA N w a E blk FS US) (ho:o.op= .assign x) (hp:AF P E o=some s):Dt P w a E blk FS US o s:=by
 simp only[AF,ho]at hp;exact Sd h hp λw2=>by simp[execOp,ho]
theorem XY {w0:Base} (h:Ca w0 FA UA N w a E blk FS US) (ho:o.op= .nilCheck x) (hp:AF P E o=some s):Dt P w a E blk FS US o s:=by
 simp only[AF,ho]at hp;split at hp
 ·rename_i p b;obtain⟨_,ad,_,he⟩:=Kr h b;exact Sd h hp λw2=>by simp_all [execOp]
 cases hp
theorem kT {w0:Base} {c y:Operand} (h:Ca w0 FA UA N w a E blk FS US) (ho:o.op= .pick c x y) (hp:AF P E o=some s):Dt P w a E blk FS US o s:=by
 simp only[AF,ho]at hp;split at hp
 ·rename_i hc;have:=JS h hc;exact Sd h hp λw2=>by simp_all [execOp,asBool]
 ·rename_i hc;have:=JS h hc;exact Sd h hp λw2=>by simp_all [execOp,asBool]
 cases hp
theorem YV {x:TV} (h:TD op x y=some z):∃vx vy,x.toV=some vx/\y.toV=some vy:=by
 cases x<;>cases y<;>simp only[TD,reduceCtorEq]at h<;>exact⟨_,_,rfl,rfl⟩
theorem gL {w0:Base} {t':TypeId} {y:Operand} (h:Ca w0 FA UA N w a E blk FS US) (ho:o.op= .binOp op t x y t') (hp:AF P E o=some s):Dt P w a E blk FS US o s:=by
 simp only[AF,ho]at hp;split at hp
 ·rename_i u v hu hv;split at hp
  ·rename_i hb;obtain⟨z,hz,rfl⟩:=A9.1 hp;obtain⟨vx,vy,hx,hy⟩:=YV hz;have h1:=Q7 h hu hx;have h2:=Q7 h hv hy;obtain⟨vz,d,c⟩:=cY (P:=P) (op:=op) (t:=t) (ox:=x) (oy:=y) hz (λb hb'=>by grind [Y8]) hx hy;refine FI d λw2=>?_;have:=c w2;simp only[execOp,ho,h1,h2];simp only[Sem.run_bind]at this⊢;simp_all
  cases hp
 cases hp
theorem kS {w0:Base} {op:UnOp} (h:Ca w0 FA UA N w a E blk FS US) (ho:o.op= .unOp op t x) (hp:AF P E o=some s):Dt P w a E blk FS US o s:=by
 simp only[AF,ho]at hp;split at hp
 ·rename_i u hu;obtain⟨z,hz,rfl⟩:=A9.1 hp;have:∃vx,u.toV=some vx:=by cases op<;>cases u<;>simp only[j8,reduceCtorEq]at hz<;>exact⟨_,rfl⟩
  obtain⟨vx,hx⟩:=this;have h1:=Q7 h hu hx;obtain⟨vz,c,b⟩:=fS (P:=P) hz hx;simp_all [FI,execOp]
 cases hp
theorem T9:∀{ts:List TV} {vs:List Value} {F U:List Nat} {l:List Int},Bh w ts vs F U->Kz ts=some l->vs=l.map (.int .u8)
 |[],vs,F,U,l,h,k=>by
  simp only[Kz,An]at k;subst k;simp[h.1]
 |t::ts,vs,F,U,l,h,k=>by
  obtain⟨v,a,F1,F2,U1,U2,rfl,_,_,h1,h2⟩:=h
  cases t with
  |int kd n=>
   cases kd<;>simp only[Kz,reduceCtorEq]at k;obtain⟨l',k1,rfl⟩:=A9.1 k;rw[h1.1,T9 h2 k1];rfl
  |_=>simp[Kz]at k
theorem Z3 {w0:Base} {src dst:TypeId} (h:Ca w0 FA UA N w a E blk FS US) (ho:o.op= .convert src dst x) (hp:AF P E o=some s):Dt P w a E blk FS US o s:=by
 simp only[AF,ho]at hp;split at hp
 ·rename_i k0 k k1 n hs hd hu
  injection hp with hp
  subst hp;have h1:=CK h hu;refine FI rfl λw2=>?_;simp[execOp,ho,h1,convert,run_underlying hs,run_underlying hd,Conv.intToInt]
 ·rename_i e hs hd;split at hp
  ·rename_i r q j he hr;split at hp
   ·rename_i o' e' sz cells d;split at hp
    ·rename_i f;subst f;obtain⟨l,hl,rfl⟩:=A9.1 hp;obtain⟨F,U,h1,h2,h3⟩:=JI h d<|Pu h hr;refine⟨.string<|strOfNums l,[],λw2 m=>?_,by simp[GI,CI,DD,Value.cells],by simp⟩;have hw:=m r (by grind [Pv]);have h4:=Gm (w':=w2) h1 (λb hb=>hw.1 b<|h2 b hb) λb hb=>hw.2 b<|h3 b hb;have p:∃A n c vs F' U',a.eval x= .slice A n c/\vs.length=n/\JV w2 (a.eval x) vs/\Bh w2 cells vs F' U':=by
      cases o' with
      |true=>
       obtain⟨n,vs,F',h5,h6,_⟩:=h4;have hs':∃A c,a.eval x= .slice A n c:=by
        rcases h5.2 with⟨h7,rfl⟩|⟨g,z,h0,h7,_⟩
        ·grind
        grind
       obtain⟨A,c,h7⟩:=hs';exact⟨A,n,c,vs,F',_,h7,by simpa using h5.1,Jr h5,h6⟩
      |false=>grind [DD]
     obtain⟨A,n,c,vs,F',U',k1,k2,k3,k4⟩:=p;have k5:=T9 k4 hl;simp only[execOp,ho,k1];have y:(convert src dst<|.slice A n c).run P w2= .ok (.string<|strOfNums l) w2:=by
      rw[run_convert_bytes_string w2 src dst e A n c hs he hd]
      cases A with
      |none=>
       have hv:vs=[]:=by
        cases vs with
        |nil=>rfl
        |cons u us=>
         obtain⟨ad,n',c',hx,_⟩:=k3 0 u rfl
         grind
       subst hv;have:l=[]:=by simpa using k5.symm
       subst this;rfl
      |some ad=>
       have t:(loadCells ad n).run P w2= .ok (l.map<|Value.int .u8).toArray w2:=by
        have:=run_loadCells_list (P:=P) w2 ad (l.map<|Value.int .u8) (λi v hi=>by
         rw[<-k5]at hi;obtain⟨ad',n',c',hx,hy⟩:=k3 i v hi
         grind)
        grind
       rw[run_bytesToString w2 _ n c l t,foldl_push_bytes];simp[strOfNums]
     simp_all
    cases hp
   cases hp
  cases hp
 cases hp
theorem W5 {w0:Base} {st:TypeId} {f:Nat} (h:Ca w0 FA UA N w a E blk FS US) (ho:o.op= .fieldAddr st x f) (hp:AF P E o=some s):Dt P w a E blk FS US o s:=by
 simp only[AF,ho]at hp;split at hp
 ·rename_i fs r q j hs c;split at hp
  ·rename_i fd hf;split at hp
   ·cases hp
   rename_i b;split at hp
   case isFalse=>cases hp
   rename_i hq
   injection hp with hp
   subst hp;obtain⟨_,ad,h1,h2⟩:=Kr h c;obtain⟨i,hi,_⟩:=Gr b;refine⟨_,[],λw2 _=>?_,P2 hq<|gE h1,by simp⟩;simp[execOp,ho,h2,Instr.fieldAt,run_underlying hs,hf,Instr.sureAddr,fieldPlace,run_sizeOf w2 hi,b]
  cases hp
 cases hp
theorem W4 {w0:Base} {i:Operand} (h:Ca w0 FA UA N w a E blk FS US) (ho:o.op= .indexAddr t x i) (hp:AF P E o=some s):Dt P w a E blk FS US o s:=by
 simp only[AF,ho]at hp;split at hp
 ·rename_i e k n ht hi;split at hp
  ·rename_i r q j f;split at hp
   ·rename_i o' e' sz d g;split at hp
    ·rename_i hc;obtain⟨rfl,l,v,p⟩:=hc
     injection hp with hp
     subst hp;have h1:=CK h hi;have h2:=Pu h f;obtain⟨F,U,h3,_,_⟩:=JI h g h2;obtain⟨A,m,c,hv,hm,hA⟩:=Na h3;have u:0<d.length:=BC (Nat.mul_pos (by omega) l) p;obtain⟨ad,rfl⟩:=hA u;obtain⟨inf,b,_⟩:=Gr (P:=P) (t:=e) (by omega);have y:n<(m:Int):=by
      have:(n.toNat+1)<=m:=Nat.le_of_mul_le_mul_right (by grind) l;omega
     rw[hv]at h2;have z:E.stamp r (q++ [j])=E.ver r:=HJ (by simp);rw[<-z];refine⟨_,[],λw2 _=>?_,P2 (Zw g<|BC (by grind) p)<|bH h2,by simp⟩;simp[execOp,ho,h1,hv,Instr.indexAt,run_underlying ht,asIntOf,v,y,run_sizeOf w2 b]
    cases hp
   cases hp
  cases hp
 ·rename_i len e k n ht hi;split at hp
  ·rename_i r q j h0;split at hp
   ·rename_i hc
    injection hp with hp
    subst hp;have h1:=CK h hi;obtain⟨_,ad,h2,h3⟩:=Kr h h0;obtain⟨inf,b,_⟩:=Gr (P:=P) (t:=e) (by omega);refine⟨_,[],λw2 _=>?_,P2 hc.2.2.2<|gE h2,by simp⟩;simp[execOp,ho,h1,h3,Instr.indexAt,run_underlying ht,asIntOf,Instr.sureAddr,hc,run_sizeOf w2 b]
   cases hp
  cases hp
 cases hp
theorem Qp:∀(j:Nat) {ts:List TV} {vs F U},Bh w ts vs F U->∃F1 U1,Bh w (ts.drop j) (vs.drop j) F1 U1/\(∀b∈F1,b∈F)/\(∀b∈U1,b∈U)
 |0,ts,vs,F,U,h=>⟨F,U,h,λ_ hb=>hb,λ_ hb=>hb⟩
 |j+1,[],vs,F,U,h=>by grind [Bh]
 |j+1,t::ts,vs,F,U,h=>by
  obtain⟨v,a,F1,F2,U1,U2,rfl,rfl,rfl,h1,h2⟩:=h;obtain⟨F3,U3,h3,h4,h5⟩:=Qp j h2
  grind
theorem Qn:∀(n:Nat) {ts:List TV} {vs F U},Bh w ts vs F U->∃F1 U1,Bh w (ts.take n) (vs.take n) F1 U1/\(∀b∈F1,b∈F)/\(∀b∈U1,b∈U)
 |0,ts,vs,F,U,h=>⟨[],[],by simp[Bh],by simp,by simp⟩
 |n+1,[],vs,F,U,h=>by grind [Bh]
 |n+1,t::ts,vs,F,U,h=>by
  obtain⟨v,a,F1,F2,U1,U2,rfl,rfl,rfl,h1,h2⟩:=h;obtain⟨F3,U3,h3,h4,h5⟩:=Qn n h2;refine⟨F1++F3,U1++U3,by grind [Bh],λb hb=>?_,λb hb=>?_⟩
  ·grind
  grind
theorem D7 {blk:Root->Nat}:∀{ts:List TV} {vs:List Value} {F U:List Nat},Bh w ts vs F U->BG w a E blk ts vs F U
 |[],vs,F,U,h=>by grind [Bh,BG]
 |t::ts,vs,F,U,h=>by
  obtain⟨v,b,F1,F2,U1,U2,rfl,rfl,rfl,h1,h2⟩:=h;exact⟨v,b,F1,F2,U1,U2,rfl,rfl,rfl,FR h1,D7 h2⟩
theorem RJ {t:TV} (h:DD w t v F U):v.oneCell'=true:=by
 cases t with
 |int _ _=>obtain⟨rfl,_⟩:=h;rfl
 |bool _=>obtain⟨rfl,_⟩:=h;rfl
 |str _=>obtain⟨rfl,_⟩:=h;rfl
 |fn _ _ _=>obtain⟨rfl,_⟩:=h;rfl
 |adr _=>obtain⟨rfl,_⟩:=h;rfl
 |hdr _ _ _=>obtain⟨rfl,_⟩:=h;rfl
 |junk=>exact h.1
 |view _ _ _ _=>grind [DD]
 |ptr _ _ _ _=>grind [DD]
 |sl o e sz cells=>
  obtain⟨A,n,c,rfl,_⟩:=Na h;rfl
theorem SF:∀{ts:List TV} {vs:List Value} {F U:List Nat},Bh w ts vs F U->∀v∈vs,v.oneCell'=true
 |[],vs,F,U,h,v,hv=>by grind [Bh]
 |t::ts,vs,F,U,h,v,hv=>by
  obtain⟨u,a,F1,F2,U1,U2,rfl,rfl,rfl,h1,h2⟩:=h
  rcases PU.1 hv with rfl|hv
  ·exact RJ h1
  exact SF h2 v hv
theorem eC (h:v.oneCell'=true):v.cells= #[v]:=by cases v<;>first|rfl|cases h
theorem UZ (h:P.underlying t≠none):(isAgg t).run P w2= .ok (WY P t) w2:=by
 cases hu:P.underlying t with
 |none=>exact absurd hu h
 |some d=>cases d<;>simp[isAgg,run_underlying hu,WY,hu]
theorem kX {w0:Base} (h:Ca w0 FA UA N w a E blk FS US) (ho:o.op= .load t x) (hp:AF P E o=some s):Dt P w a E blk FS US o s:=by
 simp only[AF,ho]at hp;split at hp
 ·rename_i r q j z;split at hp
  ·rename_i a6 m;obtain⟨cs,hr,hc⟩:=Aj.1 m;obtain⟨_,ad,h1,h2⟩:=Kr h z;obtain⟨rvs,F1,U1,h3,h4,h5,h6⟩:=dD h hr hc h1;have a0:Pv E o=some r:=by grind [Pv]
   have a4:=Cl h3;split at hp
   ·split at hp
    ·rename_i f
     injection hp with hp
     subst hp;have g:P.underlying t≠none:=by grind [WY]
     obtain⟨F2,U2,h7,h8,h9⟩:=Qp j h3;obtain⟨F3,U3,h10,h11,h12⟩:=Qn (P.cellsOf t) h7;have a1:=D7 (a:=a) (E:=E) (blk:=blk) h10;obtain⟨U4,h13,h14⟩:=Pi (r:=r) (q:=q) j a1 (λi t' v' hi hv e sz k he=>by grind [St.place]);refine⟨.agg ((rvs.drop j).take<|P.cellsOf t).toArray,U4,λw2 n=>?_,?_,λb hb=>⟨r,h5 b<|h9 b<|h12 b<|h14 b hb⟩⟩
     ·have hl:((rvs.drop j).take<|P.cellsOf t).length=P.cellsOf t:=by grind
      have d:=run_loadCells_list (P:=P) w2 ad ((rvs.drop j).take<|P.cellsOf t) (λi u hu=>by grind);rw[hl]at d;have a2:(sizeOf t).run P w2= .ok (P.cellsOf t) w2:=by grind [run_sizeOf,Program.underlying]
      simp[execOp,ho,h2,Instr.loadAt,Instr.sureAddr,loadVar,UZ g,f,a2,d]
     grind [GI]
    split at hp
    ·rename_i f a5;obtain⟨x',hx',rfl⟩:=A9.1 hp;have g:P.underlying t≠none:=by grind
     obtain⟨v,A,B,C,D,F2,U2,hv,p,hF,hU,_⟩:=Fz j h3 hx';obtain⟨a3,l⟩:=h6 0 v hv;obtain⟨U4,h13,h14⟩:=VV (r:=r) (q:=q) (c:=j) (FR (a:=a) (E:=E) (blk:=blk) p) (λe sz k he=>⟨a3,by grind [St.place]⟩);refine⟨v,U4,λw2 n=>?_,?_,λb hb=>⟨r,h5 b<|by grind⟩⟩
     ·obtain⟨hA,hC⟩:=n r a0;have:=l w2 hA hC;have h0:ad.add 0=ad:=by simp[Addr.add]
      rw[h0]at this;have y:WY P t=false:=by simpa using f
      simp[execOp,ho,h2,Instr.loadAt,Instr.sureAddr,loadVar,UZ g,y,this]
     exact⟨h13,λ_=>eC<|RJ p⟩
    cases hp
   cases hp
  cases hp
 cases hp
theorem gK {w0:Base} {i:Operand} (h:Ca w0 FA UA N w a E blk FS US) (ho:o.op= .index t x i) (hp:AF P E o=some s):Dt P w a E blk FS US o s:=by
 simp only[AF,ho]at hp;split at hp
 ·rename_i str k n ht hx hi;split at hp
  ·rename_i hc
   injection hp with hp
   subst hp;have h1:=NW h hx;have h2:=CK h hi;have b:n.toNat<str.size:=by omega
   refine FI rfl λw2=>?_;have hg:str[n.toNat]?=some str[n.toNat]:=by simp[b]
   simp only[execOp,ho,h1,h2,Instr.index];simp[run_underlying ht,asIntOf,hc.1,hg,AF.bt,b]
  cases hp
 cases hp
theorem fT {e:TypeId} {A:Option Addr} {lo hi:Option Value} {l u:Nat} (ht:P.underlying t=some (.slice e)) (d:sz=P.cellsOf e) (h0:0<sz) (f:l<=u) (g:u<=n) (h:n<=c) (a:lo=none/\l=0\/∃k,lo=some (.int k l)) (b:hi=none/\u=n\/∃k,hi=some (.int k u)) (w2:World):
  (Instr.sliceAt t (.slice A n c) lo hi none).run P w2= .ok (.slice (if c=l then A else A.map (·.add (l*sz))) (u-l) (c-l)) w2:=by
 have he:P.elem t=e:=by simp[Program.elem,ht]
 have ht':P.underlying t=some (.slice<|P.elem t):=by rw[he];exact ht
 obtain⟨i,j,m⟩:=Gr (P:=P) (t:=e) (by omega);rw[run_sliceAt_slice w2 _ _ _ _ _ ht']
 rcases a with⟨rfl,rfl⟩|⟨k,rfl⟩<;>rcases b with⟨rfl,rfl⟩|⟨k',rfl⟩
 ·simp_all [run_slice_all,sizeOf,typeInfo,sliced]
 ·rw[run_slice_h w2 _ _ _ _ ht' _ _ (by omega)<|by omega];simp_all [sizeOf,typeInfo,sliced]
 ·simp_all [run_slice_l,sizeOf,typeInfo,sliced]
 rw[run_slice_lh w2 _ _ _ _ ht' _ _ _ _ (by omega) (by omega)<|by omega];simp_all [sizeOf,typeInfo,sliced]
theorem kV {w0:Base} {e:TypeId} {e':Nat} {k1 k2:IntKind} {l u:Int} (h:Ca w0 FA UA N w a E blk FS US) (ho:o.op= .slice t x lo hi none) (ht:P.underlying t=some (.slice e)) {d:List TV} (hr:E.ref x=some (r,q,j)) (v:E.place r q j=some (.sl false e' sz d)) (hl:lo=none/\l=0\/∃ol,lo=some ol/\a.eval ol= .int k1 l) (hu:hi=none/\u=(d.length/sz:Nat)\/∃oh,hi=some oh/\a.eval oh= .int k2 u) (hc:sz=P.cellsOf e/\0<sz/\0<=l/\l<=u/\u.toNat*sz<=d.length):
  Dt P w a E blk FS US o (.one (.sl false e' sz ((d.drop (l.toNat*sz)).take ((u.toNat-l.toNat)*sz)))):=by
 obtain⟨z,h0,h4,a4,f⟩:=hc;obtain⟨F,U,h1,h2,h3⟩:=JI h v<|Pu h hr;simp only[DD]at h1;obtain⟨A,n,c,vs,U0,B,hv,h5,k,h6,m,rfl,hB,rfl⟩:=h1;have h7:=Cl m;obtain⟨l',rfl⟩:=DQ h4;obtain⟨u',rfl⟩:=DQ (by omega:0<=u);simp only[DP]at f⊢;have h8:u'<=n:=by
  rw[<-h7,k]at f;exact Nat.le_of_mul_le_mul_right f h0
 have hlu':l'<=u':=by omega
 have a2:d.length/sz=n:=by simp_all
 have p:∀w2:World,(execOp a.eval o).run P w2= .ok (.value (.slice (if c=l' then A else A.map (·.add (l'*sz))) (u'-l')<|c-l')) w2:=by
  intro w2;have:=fT (P:=P) ht z h0 (A:=A) (lo:=lo.map a.eval) (hi:=hi.map a.eval) hlu' h8 h5
   (by grind)
   (by grind) w2
  simp_all [execOp]
 obtain⟨F1,U1,d1,d2,d3⟩:=Qp (l'*sz) m;obtain⟨F2,U2,g1,g2,g3⟩:=Qn ((u'-l')*sz) d1;have h9:F2=[]:=by
  cases F2 with
  |nil=>rfl
  |cons b _=>exact absurd (d2 b<|g2 b<|by simp)<|by simp
 subst h9;have s:((vs.drop<|l'*sz).take<|(u'-l')*sz).length=(u'-l')*sz:=by grind [Nat.sub_mul]
 have hrd':JV w (.slice (if c=l' then A else A.map (·.add (l'*sz))) (u'-l')<|c-l') ((vs.drop<|l'*sz).take<|(u'-l')*sz):=by
  intro i y hi;have g:=(Ae.1 hi).1;rw[s]at g;rw[List.getElem?_take,Bc g,List.getElem?_drop]at hi;obtain⟨ad,n2,c2,k3,k4⟩:=h6 (l'*sz+i) y hi;rw[hv]at k3
  injection k3 with k3 k5 k6
  subst k3;have a5:c≠l':=by grind
  refine⟨ad.add<|l'*sz,u'-l',c-l',by grind,?_⟩;rw[<-k4];congr 1;unfold Addr.add
  grind
 have a0:∃B',(B'=Cy (.slice (if c=l' then A else A.map (·.add (l'*sz))) (u'-l')<|c-l')\/(vs.drop<|l'*sz).take ((u'-l')*sz)=[]/\B'=[])/\∀b∈B',b∈US r:=by
  by_cases a3:(vs.drop<|l'*sz).take ((u'-l')*sz)=[]
  ·simp_all
  rcases hB with hB|⟨hB,_⟩
  ·refine⟨Cy<|a.eval x,.inl ?_,λb hb=>h3 b<|B8 _ (by rw[hB];exact hb)⟩;rw[hv]
   cases A with
   |none=>split<;>rfl
   |some ad=>grind [Jv,Cy,Value.ownBlock]
  grind
 obtain⟨B',a1,a6⟩:=a0;refine⟨_,B'++U2,λw2 _=>p w2,?_,λb hb=>⟨r,?_⟩⟩
 ·simp only[GI,CI,DD];refine⟨⟨_,_,_,_,U2,B',rfl,by omega,s,hrd',g1,trivial,a1,rfl⟩,λ_=>rfl⟩
 grind
theorem gJ {w0:Base} (h:Ca w0 FA UA N w a E blk FS US) (ho:o.op= .slice t x lo hi none) (hp:AF P E o=some s):Dt P w a E blk FS US o s:=by
 simp only[AF,ho]at hp;split at hp
 ·rename_i str ht hx;have h1:=NW h hx;split at hp
  ·rename_i k1 l k2 u hl hu;split at hp
   ·rename_i hc
    injection hp with hp
    subst hp;obtain⟨d,i,k⟩:=hc;refine FI rfl λw2=>?_;have hL:lo=none/\l=0\/∃ol,lo=some ol/\a.eval ol= .int k1 l:=by grind [CK]
    have hU:hi=none/\u=(str.size:Int)\/∃oh,hi=some oh/\a.eval oh= .int k2 u:=by grind [CK]
    obtain⟨u',rfl⟩:=DQ (by omega:0<=u);obtain⟨l',rfl⟩:=DQ d;have e1:l'<=u':=by omega
    have e2:u'<=str.size:=by omega
    rcases hL with⟨rfl,m⟩|⟨ol,rfl,b⟩<;>rcases hU with⟨rfl,n⟩|⟨oh,rfl,c⟩
    ·have:l'=0:=by omega
     have:u'=str.size:=by omega
     subst_vars
     simp[execOp,ho,h1,Instr.sliceAt,run_underlying ht,Instr.slice,Instr.sliceBounds]
    ·have:l'=0:=by omega
     subst this;simp[execOp,ho,h1,Instr.sliceAt,run_underlying ht,Instr.slice,Instr.sliceBounds,Instr.sliceBound,c,asIntOf,e2]
    ·have:u'=str.size:=by omega
     subst this;simp[execOp,ho,h1,Instr.sliceAt,run_underlying ht,Instr.slice,Instr.sliceBounds,Instr.sliceBound,b,asIntOf,e1]
    simp[execOp,ho,h1,Instr.sliceAt,run_underlying ht,Instr.slice,Instr.sliceBounds,Instr.sliceBound,b,c,asIntOf,e1,e2]
   cases hp
  cases hp
 ·rename_i e ht;split at hp
  ·rename_i r q j hr;split at hp
   ·rename_i e' sz f g;split at hp
    ·rename_i k1 l k2 u hl hu;split at hp
     ·rename_i hc
      injection hp with hp
      subst hp;refine kV h ho ht hr g (k1:=k1) (k2:=k2) ?_ ?_ hc
      ·grind [CK]
      grind [CK]
     cases hp
    cases hp
   cases hp
  cases hp
 cases hp
theorem Z4 {w0:Base} {c:Call} {b:Builtin} (h:Ca w0 FA UA N w a E blk FS US) (ho:o.op= .call c) (hb:c.callee= .builtin b) (hp:K0 P E b c.args.toList c.argTypes.toList=some s):Dt P w a E blk FS US o s:=by
 obtain⟨callee,args,types⟩:=c;simp only at hb;subst hb;simp only at hp;unfold K0 at hp;split at hp
 ·rename_i x t d f;obtain rfl:args= #[x]:=by cases args;simp_all
  obtain rfl:types= #[t]:=by cases types;simp_all
  split at hp
  ·rename_i ht;split at hp
   ·rename_i str hx
    injection hp with hp
    subst hp;have h1:=NW h hx;refine FI rfl λw2=>?_;simp[execOp,ho,resolve,invoke,builtin,Builtin.len_,h1,run_underlying ht,goInt]
   cases hp
  ·rename_i e ht;split at hp
   ·rename_i sz l hs;split at hp
    ·rename_i g
     injection hp with hp
     subst hp;unfold St.sliceCells at hs;split at hs
     ·rename_i r q j i;split at hs
      ·rename_i o' e' sz' cells' p;obtain⟨rfl,rfl⟩:=hs;have h2:=Pu h i;obtain⟨F,U,h3,_,_⟩:=JI h p h2;obtain⟨A,m,c,hv,hm,_⟩:=Na h3;refine FI (v:= .int .i64 m) ?_ (λw2=>?_)
       ·simp only[TV.toV];rw[<-hm,Nat.mul_div_cancel _ g]
       simp[execOp,ho,resolve,invoke,builtin,Builtin.len_,hv,run_underlying ht,goInt]
      cases hs
     cases hs
    cases hp
   cases hp
  cases hp
 ·rename_i x y t t' d f;obtain rfl:args= #[x,y]:=by cases args;simp_all
  split at hp
  ·rename_i k m k' n hx hy
   injection hp with hp
   subst hp;have h1:=CK h hx;have h2:=CK h hy;refine FI rfl λw2=>?_;simp[execOp,ho,resolve,invoke,builtin,Builtin.min_,h1,h2,Builtin.min2]
  cases hp
 ·rename_i x y t t' d f;obtain rfl:args= #[x,y]:=by cases args;simp_all
  split at hp
  ·rename_i k m k' n hx hy
   injection hp with hp
   subst hp;have h1:=CK h hx;have h2:=CK h hy;refine FI rfl λw2=>?_;simp[execOp,ho,resolve,invoke,builtin,Builtin.max_,h1,h2,Builtin.max2]
  cases hp
 cases hp
theorem OB {w0:Base} (h:Ca w0 FA UA N w a E blk FS US) (hp:AF P E o=some s):Dt P w a E blk FS US o s:=by
 have b:=hp;unfold AF at hp;split at hp
 ·grind [kW]
 ·grind [dH]
 ·grind [XY]
 ·grind [kT]
 ·grind [gL]
 ·grind [kS]
 ·grind [Z3]
 ·grind [W5]
 ·grind [W4]
 ·grind [kX]
 ·grind [gK]
 ·grind [gJ]
 ·grind [Z4]
 cases hp
def St.ownAt (E:St) (r:Root) (q:List Nat):Bool:=match E.root r with
 |some cs=>Ji cs q
 |none=>false
def YW (E:St) (r:Root) (ver:Nat) (q:List Nat) (j:Nat):Option (TV×St):=if E.ver r=ver then
  match E.place r q j with
  |some (.sl true e sz cells)=>if E.ownAt r q=true then
    match E.root r with
    |some cs=>some (.sl true e sz cells,(E.setRoot r<|Cs cs q λa=>a.set j .junk).bump r)
    |none=>none else none
  |some (.sl false e sz cells)=>some (.sl false e sz cells,E)
  |_=>none else none
def D1 (E:St):TV->Option (TV×St)
 | .view r v q j=>YW E r v q j
 | .ptr .. =>none
 | .junk=>none
 | .sl o e sz cells=>some (.sl o e sz cells,E)
 |t=>some (t,E)
def nV (E E1:St):TV->TV->TV
 | .view r _ q j,.view r' v' q' j'=>if r'=r/\E.ver r=v'/\q'=q/\j'≠j then .view r' (E1.ver r') q' j' else .view r' v' q' j'
 |_,u=>u
def UH (n:Nat) (E:St) (l:List TV):Option (List TV×St):=match n,l with
 |0,_=>some ([],E)
 |_+1,[]=>some ([],E)
 |n+1,t::ts=>match D1 E t with
  |some (x,E1)=>match UH n E1 (ts.map<|nV E E1 t)with
   |some (xs,E2)=>some (x::xs,E2)
   |none=>none
  |none=>none
def Ej (E:St) (l:List TV):Option (List TV×St):=UH l.length E l
theorem MD {t:TV} {ts:List TV}:Ej E (t::ts)=match D1 E t with
 |some (x,E1)=>match Ej E1 (ts.map (nV E E1 t))with
  |some (xs,E2)=>some (x::xs,E2)
  |none=>none
 |none=>none:=by grind [Ej,UH]
theorem Rv:(E.bump r).ver r=E.ver r+1:=by simp[St.bump,Bp]
theorem Ru {s:Root} (h:s≠r):(E.bump r).ver s=E.ver s:=by simp[St.bump,Bp,h]
theorem Kd {cs:List TV}:(E.setRoot r cs).ver=E.ver:=by cases r<;>rfl
theorem Le {s:Root}:(E.bump r).root s=E.root s:=by cases s<;>rfl
theorem ZR:(E.bump r).slots=E.slots:=rfl
theorem TB:(E.bump r).boxes=E.boxes:=rfl
theorem Mq {s:Root} {cs:List TV} (h:s≠r):(E.setRoot r cs).root s=E.root s:=by
 cases r<;>cases s<;>simp only[St.setRoot,St.root,Bp]<;>first
  |rfl
  |grind
  |(rw[AA h])
  |(simp_all;done)
theorem MK {cs:List TV}:(E.setRoot r cs).gen=E.gen:=by cases r<;>rfl
theorem TA:(E.bump r).gen=E.gen:=rfl
theorem Ke {cs:List TV} (h:r.mem=true):(E.setRoot r cs).root r=some cs:=by cases r<;>simp_all [St.setRoot,St.root,Bp,Root.mem]
theorem So {cs:List TV} (b:r.mem=true->∀cs0,E.root r=some cs0->cs.length=cs0.length) (s:Root):Bw w w a a E ((E.setRoot r cs).bump r) blk blk s:=by
 by_cases h:s=r
 ·subst h;refine⟨.inl (by grind [Rv,Kd]),.inr ⟨by rw[TA,MK],λj ad h1 h2=>⟨h1,?_⟩⟩⟩;by_cases hm:s.mem=true
  ·unfold St.place at h2
   cases hr:E.root s with
   |none=>simp[hr]at h2
   |some cs0=>grind [Le,Ke,Bg,St.place]
  cases s<;>first|grind [pa]|exact absurd rfl hm
 have c:∀q j,((E.setRoot r cs).bump r).place s q j=E.place s q j:=λq j=>by grind [Le,Mq,St.place]
 refine⟨.inr ⟨by rw[Ru h,Kd],λq j v h1 h2=>⟨h1,by grind⟩,λq j ad _ h1 h2=>⟨h1,by grind⟩⟩,.inr ⟨by rw[TA,MK],λj ad h1 h2=>⟨h1,by grind⟩⟩⟩
theorem OP:∀{ts:List TV} {vs:List Value} {F U:List Nat} (c:Nat) {t:TV},BG w a E blk ts vs F U->ts[c]?=some t->
  ∃v A B C D F1 U1,vs[c]?=some v/\CI w a E blk t v F1 U1/\F=A++F1++B/\U=C++U1++D/\
   ∀t' F1' U1',CI w a E blk t' v F1' U1'->BG w a E blk (ts.set c t') vs (A++F1'++B) (C++U1'++D)
 |[],_,_,_,c,t,_,hc=>by simp at hc
 |t0::ts,vs,F,U,0,t,h,hc=>by
  obtain⟨v,b,F1,F2,U1,U2,rfl,rfl,rfl,h1,h2⟩:=h;simp at hc;subst hc;refine⟨v,[],F2,[],U2,F1,U1,rfl,h1,rfl,rfl,λt' F1' U1' hx=>?_⟩;exact⟨v,b,F1',F2,U1',U2,rfl,rfl,rfl,hx,h2⟩
 |t0::ts,vs,F,U,c+1,t,h,hc=>by
  obtain⟨v,b,F1,F2,U1,U2,rfl,rfl,rfl,h1,h2⟩:=h;simp at hc;obtain⟨u,A,B,C,D,G,V,h3,h4,rfl,rfl,hk⟩:=OP c h2 hc;refine⟨u,F1++A,B,U1++C,D,G,V,by simpa using h3,h4,by simp,by simp,λt' F1' U1' hx=>?_⟩;exact⟨v,b,F1,A++F1'++B,U1,C++U1'++D,rfl,by simp,by simp,h1,hk t' F1' U1' hx⟩
theorem Ca.out {w0:Base} {cs':List TV} (h:Ca w0 FA UA N w a E blk FS US) (hr:r≠ .hand) {A B F1 U' U1:List Nat} (hF:FS r=A++F1++B) (z:r.mem=true->∀cs0,E.root r=some cs0->cs'.length=cs0.length) (hU':∀b∈U',b∈US r) (a1:∀b∈U1,b∈US r) (q:∀n,r= .slot n->GI w a E blk ((E.slots n).withCells cs') (a.eval (.tmp n)) (A++B) U') (h0:r.mem=true->∃u T F,w.heap[blk r]?=some (.cells u T (0,0))/\Bh w cs' u.toList F U'/\A++B=blk r::F):
  Ca w0 FA UA N w a ((E.setRoot r cs').bump r) blk (Bp (Bp FS r (A++B)) .hand (FS .hand++F1)) (Bp (Bp US r U') .hand (US .hand++U1)):=by
 have h5:∀s,Bw w w a a E ((E.setRoot r cs').bump r) blk blk s:=λs=>So z s
 have h6:=h.nodup r;rw[hF]at h6
 have d:∀b,b∈A++B->b∈FS r:=λb hb=>by grind
 have c:∀b,b∈F1->b∈FS r:=λb hb=>by grind
 have g:∀b,b∈A++B->b∉F1:=by grind
 have a0:(A++B).Nodup:=by grind
 have h7:F1.Nodup:=h6.sublist<|(List.sublist_append_right A F1).trans<|List.sublist_append_left _ _
 have h8:∀s,s≠Root.hand->Bp (Bp FS r<|A++B) .hand (FS .hand++F1) s=Bp FS r (A++B) s:=λs hs=>AI hs
 have l:∀s,s≠Root.hand->Bp (Bp US r U') .hand (US .hand++U1) s=Bp US r U' s:=λs hs=>AI hs
 have h9:∀s,∀b∈Bp (Bp FS r<|A++B) .hand (FS .hand++F1) s,(s= .hand/\(b∈FS .hand\/b∈F1))\/(s=r/\b∈A++B)\/(s≠ .hand/\s≠r/\b∈FS s):=by
  intro s b hb;by_cases hs:s= .hand
  ·grind [Bm]
  rw[AI hs]at hb;by_cases v:s=r
  ·grind [Bm]
  grind [AI]
 have o:∀s,∀b∈Bp (Bp US r U') .hand (US .hand++U1) s,∃s',b∈US s':=by
  intro s b hb;by_cases hs:s= .hand
  ·grind [Bm]
  rw[AI hs]at hb;by_cases v:s=r
  ·grind [Bm]
  grind [AI]
 have p:∀s,∀b∈Bp (Bp FS r<|A++B) .hand (FS .hand++F1) s,∃s',b∈FS s':=by grind
 constructor
 ·intro n;have i:Root.slot n≠Root.hand:=by simp
  rw[h8 _ i,l _ i,ZR];by_cases j:r= .slot n
  ·subst j;rw[Bm,Bm];have:(E.setRoot (.slot n) cs').slots n=(E.slots n).withCells cs':=by simp[St.setRoot,Bp]
   rw[this];exact Ek h5 (q n rfl) (λ_ _=>rfl) λ_ _=>rfl
  rw[AI λe=>j e.symm,AI λe=>j e.symm];have:(E.setRoot r cs').slots n=E.slots n:=by
   cases r with
   |slot m=>
    have:n≠m:=λe=>j<|by rw[e]
    simp[St.setRoot,Bp,this]
   |_=>rfl
  rw[this];exact Ek h5 (h.slot n) (λ_ _=>rfl) λ_ _=>rfl
 ·intro s hs;have i:s≠Root.hand:=by rintro rfl;cases hs
  rw[h8 _ i,l _ i,TB];by_cases k:s=r
  ·subst k;rw[Bm,Bm];obtain⟨u,T,F,h1,h2,h3⟩:=h0 hs;cases s<;>simp_all [St.setRoot,Bp,Root.mem]
  rw[AI k,AI k];have:(E.setRoot r cs').boxes s=E.boxes s:=by cases r<;>simp[St.setRoot,Bp,k]
  rw[this];exact h.box s hs
 ·rw[TB];have:(E.setRoot r cs').boxes .hand=E.boxes .hand:=by cases r<;>simp[St.setRoot,Bp]<;>simp at hr
  rw[this];exact h.nohand
 ·intro s;by_cases hs:s= .hand
  ·subst hs;rw[Bm,Bx];exact⟨h.nodup _,h7,λx hx y hy e=>by subst e;exact h.dis r .hand hr x (c x hy) hx⟩
  rw[AI hs];by_cases v:s=r
  ·grind [Bm]
  rw[AI v];exact h.nodup s
 ·intro s s' f b hb hb'
  rcases h9 s b hb with⟨rfl,hx|hx⟩|⟨rfl,hx⟩|⟨h1,h2,hx⟩<;>rcases h9 s' b hb' with⟨rfl,hy|hy⟩|⟨rfl,hy⟩|⟨h3,h4,hy⟩
  ·exact f rfl
  ·exact f rfl
  ·exact h.dis .hand s' (If hr) b hx<|d b hy
  ·exact h.dis .hand s' (If h3) b hx hy
  ·exact f rfl
  ·exact f rfl
  ·exact g b hy hx
  ·exact h.dis r s' (If h4) b (c b hx) hy
  ·exact h.dis s .hand hr b (d b hx) hy
  ·exact g b hx hy
  ·exact f rfl
  ·exact h.dis s s' (If h4) b (d b hx) hy
  ·exact h.dis s .hand h1 b hx hy
  ·exact h.dis s r h2 b hx<|c b hy
  ·exact h.dis s s' h2 b hx<|d b hy
  exact h.dis s s' f b hx hy
 ·intro s s' b hb hb';obtain⟨t,ht⟩:=p s b hb;obtain⟨t',ht'⟩:=o s' b hb';exact h.disU t t' b ht ht'
 ·intro s b hb;obtain⟨t,ht⟩:=p s b hb;exact h.inF t b ht
 ·intro s b hb;obtain⟨t,ht⟩:=o s b hb;exact h.inU t b ht
 ·exact h.disA
 ·exact h.os
 ·exact h.tape
 ·exact h.output
 ·exact h.size
 ·exact h.keep
 ·exact h.len
 ·exact h.nodef
 ·exact h.xblk
 ·rw[JT,Cv];exact h.ambB
 ·rw[JT,Cv];exact h.ambI
 ·intro n hn;rw[NX,Fi]at hn;exact h.frz n hn
 ·exact h.ambF
 rw[JT,Cv];exact h.pin
theorem Ca.handU {w0:Base} {U1:List Nat} (h:Ca w0 FA UA N w a E blk FS US) (hU:∀b∈U1,∃r,b∈US r):
  Ca w0 FA UA N w a E blk FS (Bp US .hand (US .hand++U1)):=by
 have c:∀s,∀b∈Bp US .hand (US .hand++U1) s,∃s',b∈US s':=by
  intro s b hb;by_cases hs:s= .hand
  ·grind [Bm]
  grind [AI]
 constructor
 ·intro n;exact h.slot n
 ·intro r hr;have d:r≠Root.hand:=by rintro rfl;cases hr
  rw[AI d];exact h.box r hr
 ·exact h.nohand
 ·exact h.nodup
 ·exact h.dis
 ·intro r s b hb hb';obtain⟨t,ht⟩:=c s b hb';exact h.disU r t b hb ht
 ·exact h.inF
 ·intro r b hb;obtain⟨t,ht⟩:=c r b hb;exact h.inU t b ht
 ·exact h.disA
 ·exact h.os
 ·exact h.tape
 ·exact h.output
 ·exact h.size
 ·exact h.keep
 ·exact h.len
 ·exact h.nodef
 ·exact h.xblk
 ·exact h.ambB
 ·exact h.ambI
 ·exact h.frz
 ·exact h.ambF
 exact h.pin
theorem fC {w0:Base} (h:Ca w0 FA UA N w a E blk FS US) {cells cs:List TV} (hp:E.place r q j=some (.sl true e sz cells)) (ho:Ji cs q=true) (hr:E.root r=some cs) (hv:pv w a blk r q j=some v):
  ∃F1 U1 G V,DD w (.sl true e sz cells) v F1 U1/\(∀b∈US r,b∈V\/b∈U1)/\
   Ca w0 FA UA N w a ((E.setRoot r (Cs cs q λd=>d.set j .junk)).bump r) blk (Bp (Bp FS r G) .hand (FS .hand++F1)) (Bp (Bp US r V) .hand (US .hand++U1)):=by
 have a2:r≠ .hand:=by
  rintro rfl;simp[St.root,h.nohand]at hr
 unfold St.place at hp;rw[hr]at hp;simp only[Aa]at hp;obtain⟨d,hc,hj⟩:=Aj.1 hp
 have i:∀{v:Value},v.oneCell'=true->DD w .junk v [] []:=λh=>by grind [DD]
 have inner:∀{ts:List TV} {vs:List Value} {F U:List Nat} (c:Nat) (q':List Nat),Bh w ts vs F U->Ji ts (c::q')=true->Bg ts (c::q')=some d->∀{k:Value},vs[c]?=some k->∀{ad:Addr},K1 w k q'=some ad->w.cell? (ad.add j)=some v->
   ∃A B C D F1 U1,F=A++F1++B/\U=C++U1++D/\DD w (.sl true e sz cells) v F1 U1/\Bh w (Cs ts (c::q') λd=>d.set j .junk) vs (A++B) (C++D):=by
  intro ts vs F U c q' a5 a3 s k m ad a8 a6;obtain⟨vc,a9,n,e1,sz1,rvs,A,B,C,D,F1,U1,h1,h2,h3,rfl,rfl,h4,h5⟩:=VN q' c a5 a3 s;rw[m]at h1
  injection h1 with h1
  subst h1;obtain⟨v',A2,B2,C2,D2,F2,U2,h6,h7,rfl,rfl,h8⟩:=Fz j h3 hj;have l:v'=v:=by
   obtain⟨ad',n',c',b0,hcell'⟩:=Jr h2 j v' h6
   grind
  subst l;refine⟨A++(Cy vc++A2),B2++B,C++C2,D2++D,F2,U2,by simp,by simp,h7,?_⟩;have h9:=h8 w .junk v' [] [] (i<|RJ h7) (λ_ _=>rfl) λ_ _=>rfl
  grind [KI]
 have g:r.mem=true->∃A B C D F1 U1,FS r=A++F1++B/\US r=C++U1++D/\DD w (.sl true e sz cells) v F1 U1/\
   ∃f T F,w.heap[blk r]?=some (.cells f T (0,0))/\Bh w (Cs cs q λd=>d.set j .junk) f.toList F (C++D)/\A++B=blk r::F:=by
  intro hm;have o:E.boxes r=some cs:=by cases r<;>simp_all [St.root,Root.mem]
  have b1:∀c,Bk w a blk r c=w.cell? ((⟨blk r,0,none⟩:Addr).add c):=by intro c;cases r<;>simp_all [Bk,Root.mem]
  rcases h.box r hm with⟨h1,_⟩|⟨cs',f,T,F,h1,h2,h3,h4⟩
  ·grind
  rw[h1]at o
  injection o with o
  subst o;have a1:∀c u,f.toList[c]?=some u->w.cell? ((⟨blk r,0,none⟩:Addr).add c)=some u:=by grind [World.cell?,Addr.add]
  cases q with
  |nil=>
   simp only[Bg,An]at hc;subst hc;obtain⟨v',A,B,C,D,F1,U1,h5,h6,rfl,hU,h7⟩:=Fz j h3 hj;have l:v'=v:=by grind [pv]
   subst l;have h8:=h7 w .junk v' [] [] (i<|RJ h6) (λ_ _=>rfl) λ_ _=>rfl;rw[KI h5]at h8;exact⟨blk r::A,B,C,D,F1,U1,by rw[h4];simp,hU,h6,f,T,A++B,h2,by grind [Cs],rfl⟩
  |cons c q=>
   obtain⟨k,h5,hv⟩:=Aj.1 hv;obtain⟨ad,h6,h7⟩:=Aj.1 hv;have p:=Cl h3;have a7:∃u,f.toList[c]?=some u:=by grind [Bg]
   obtain⟨u,hu⟩:=a7;have:u=k:=by grind
   subst this;obtain⟨A,B,C,D,F1,U1,rfl,hU,h8,h9⟩:=inner c q h3 ho hc hu h6 h7;exact⟨blk r::A,B,C,D,F1,U1,by rw[h4];simp,hU,h8,f,T,A++B,h2,h9,rfl⟩
 have x:∀n,r= .slot n->∃A B C D F1 U1,FS r=A++F1++B/\US r=C++U1++D/\DD w (.sl true e sz cells) v F1 U1/\
   GI w a E blk ((E.slots n).withCells<|Cs cs q λd=>d.set j .junk) (a.eval<|.tmp n) (A++B) (C++D):=by
  intro n hn;subst hn;have hs:=h.slot n;simp only[St.root,An]at hr;have a4:∀(vs:List Value) (F U:List Nat),BG w a E blk cs vs F U->(∀c:Nat,(a.eval<|.tmp n).cells[c]?=vs[c]?)->
    ∃A B C D F1 U1,F=A++F1++B/\U=C++U1++D/\DD w (.sl true e sz cells) v F1 U1/\BG w a E blk (Cs cs q λd=>d.set j .junk) vs (A++B) (C++D):=by
   intro vs F U hx m
   cases q with
   |nil=>
    simp only[Bg,An]at hc;subst hc;obtain⟨v',A,B,C,D,F1,U1,h5,h6,rfl,rfl,h7⟩:=OP j hx hj;have l:v'=v:=by grind [pv,Bk]
    subst l;have:=h7 .junk [] [] ⟨rfl,rfl⟩;exact⟨A,B,C,D,F1,U1,rfl,rfl,h6,by grind [Cs]⟩
   |cons c q=>
    have y:∃o1 e1 s1 cl1,cs[c]?=some (.sl o1 e1 s1 cl1):=by grind [Bg]
    obtain⟨o1,e1,s1,cl1,y⟩:=y;obtain⟨v',A,B,C,D,F1,U1,h5,h6,rfl,rfl,h7⟩:=OP c hx y;simp only[pv,Bk]at hv;rw[m,h5]at hv;simp only[Aa]at hv;obtain⟨ad,h8,h9⟩:=Aj.1 hv;have h10:Bh w [.sl o1 e1 s1 cl1] [v'] F1 U1:=by simp only[Bh];exact⟨v',[],F1,[],U1,[],rfl,by simp,by simp,h6,rfl,rfl,rfl⟩
    have h11:Bg [.sl o1 e1 s1 cl1] (0::q)=some d:=by grind [Bg]
    have h12:Ji [.sl o1 e1 s1 cl1] (0::q)=true:=by grind [Ji]
    obtain⟨A2,B2,C2,D2,F2,U2,rfl,rfl,h13,h14⟩:=inner 0 q h10 h12 h11 (by rfl) h8 h9;refine⟨A++A2,B2++B,C++C2,D2++D,F2,U2,by simp,by simp,h13,?_⟩;simp only[Cs,List.getElem?_cons_zero,List.set_cons_zero]at h14;obtain⟨v2,vs2,G1,G2,V1,V2,hh,hF,hU,h15,rfl,rfl,rfl⟩:=h14
    grind [FR,Cs]
  cases z:E.slots n with
  |one t=>
   rw[z]at hs hr;simp only[SV.cells]at hr;subst hr;obtain⟨hx,b2⟩:=hs;have b3:t.isJunk=false:=by
    cases t with
    |junk=>
     cases q with
     |nil=>grind [Bg]
     |cons c q=>grind [Bg]
    |_=>rfl
   obtain⟨A,B,C,D,F1,U1,h1,h2,h3,h4⟩:=a4 [a.eval<|.tmp n] (FS<|.slot n) (US<|.slot n) ⟨_,[],_,[],_,[],rfl,by simp,by simp,hx,rfl,rfl,rfl⟩ (λc=>by grind);refine⟨A,B,C,D,F1,U1,h1,h2,h3,?_⟩;have p:(Cs [t] q λd=>d.set j .junk).length=1:=by
    cases q with
    |nil=>simp[Cs]
    |cons c q=>grind [Cs]
   match hu:Cs [t] q λd=>d.set j .junk,p with
   |[t'],_=>
    rw[hu]at h4;obtain⟨v2,vs2,G1,G2,V1,V2,hh,hF,hU,h15,rfl,rfl,rfl⟩:=h4
    grind [SV.withCells,GI]
  |agg ts=>
   rw[z]at hs hr;subst hr;obtain⟨vs,m,hx⟩:=hs;obtain⟨A,B,C,D,F1,U1,h1,h2,h3,h4⟩:=a4 vs _ _ hx λc=>by grind [Value.cells]
   grind [SV.withCells,GI]
  |tup ss=>
   rw[z]at hr;simp only[SV.cells]at hr;subst hr
   cases q with
   |nil=>grind [Bg]
   |cons c q=>simp[Bg]at hc
 have a0:r.mem=true->∀cs0,E.root r=some cs0->(Cs cs q λd=>d.set j .junk).length=cs0.length:=by
  intro _ cs0 h0;rw[hr]at h0
  injection h0 with h0
  subst h0
  cases q with
  |nil=>simp[Cs]
  |cons c q=>grind [Cs]
 have fin:∀A B C D F1 U1,FS r=A++F1++B->US r=C++U1++D->DD w (.sl true e sz cells) v F1 U1->
   (∀n,r= .slot n->GI w a E blk ((E.slots n).withCells<|Cs cs q λd=>d.set j .junk) (a.eval<|.tmp n) (A++B) (C++D))->
   (r.mem=true->∃f T F,w.heap[blk r]?=some (.cells f T (0,0))/\Bh w (Cs cs q λd=>d.set j .junk) f.toList F (C++D)/\A++B=blk r::F)->
   ∃F1 U1 G V,DD w (.sl true e sz cells) v F1 U1/\(∀b∈US r,b∈V\/b∈U1)/\
    Ca w0 FA UA N w a ((E.setRoot r<|Cs cs q λd=>d.set j .junk).bump r) blk (Bp (Bp FS r G) .hand<|FS .hand++F1) (Bp (Bp US r V) .hand<|US .hand++U1):=by
  intro A B C D F1 U1 h1 h2 h3 h4 h5;exact⟨F1,U1,A++B,C++D,h3,λb hb=>by{rw[h2]at hb;simp at hb⊢;rcases hb with hb|hb|hb<;>simp[hb]},h.out a2 h1 a0 (λb hb=>by grind) (λb hb=>by grind) h4 h5⟩
 cases hm:r.mem with
 |true=>
  obtain⟨A,B,C,D,F1,U1,h1,h2,h3,h4⟩:=g hm;exact fin A B C D F1 U1 h1 h2 h3 (λn hn=>by subst hn;cases hm) λ_=>h4
 |false=>
  cases r with
  |slot n=>grind
  |hand=>exact absurd rfl a2
  |box n=>cases hm
  |ext n=>cases hm
def ET (w:World) (a:Act) (E:St) (blk:Root->Nat) (r:Root) (F U:List Nat):Prop:=match r with
 | .slot n=>GI w a E blk (E.slots n) (a.eval<|.tmp n) F U
 | .hand=>True
 |r=>(E.boxes r=none/\F=[]/\U=[])\/∃cs b T F0,E.boxes r=some cs/\w.heap[blk r]?=some (.cells b T (0,0))/\Bh w cs b.toList F0 U/\F=blk r::F0
theorem Bw.trans {a1 a2 a3:Act} {E2 E3:St} {b1 b2 b3:Root->Nat} (h:Bw w1 w2 a1 a2 E1 E2 b1 b2 r) (k:Bw w2 w3 a2 a3 E2 E3 b2 b3 r):Bw w1 w3 a1 a3 E1 E3 b1 b3 r:=by
 constructor
 ·rcases h.views with h|⟨h1,h2,h3⟩<;>rcases k.views with k|⟨k1,k2,k3⟩
  ·grind
  ·grind
  ·grind
  grind
 rcases h.addrs with h|⟨h1,h2⟩<;>rcases k.addrs with k|⟨k1,k2⟩
 ·grind
 ·grind
 ·grind
 grind
theorem Bw.refl {blk:Root->Nat}:Bw w w a a E E blk blk r:=
 ⟨.inr ⟨rfl,λ_ _ _ h k=>⟨h,k⟩,λ_ _ _ _ h k=>⟨h,k⟩⟩,.inr ⟨rfl,λ_ _ h k=>⟨h,k⟩⟩⟩
theorem Ca.root {w0:Base} (h:Ca w0 FA UA N w a E blk FS US) (r:Root):ET w a E blk r (FS r) (US r):=by
 cases r with
 |slot n=>exact h.slot n
 |hand=>trivial
 |box n=>exact h.box (.box n) rfl
 |ext n=>exact h.box (.ext n) rfl
theorem Rc (hs:∀s,Bw w w' a a' E E' blk blk' s) (h:ET w a E blk r F U) (f:∀n,r= .slot n->E'.slots n=E.slots n/\a'.eval (.tmp n)=a.eval (.tmp n)) (e:r.mem=true->E'.boxes r=E.boxes r/\blk' r=blk r) (hF:∀b∈F,w'.heap[b]?=w.heap[b]?) (hU:∀b∈U,w'.heap[b]?=w.heap[b]?):ET w' a' E' blk' r F U:=by
 have d:∀r:Root,r.mem=true->(E'.boxes r=E.boxes r/\blk' r=blk r)->((E.boxes r=none/\F=[]/\U=[])\/∃cs c T F0,E.boxes r=some cs/\w.heap[blk r]?=some (.cells c T (0,0))/\Bh w cs c.toList F0 U/\F=blk r::F0)->
   ((E'.boxes r=none/\F=[]/\U=[])\/∃cs c T F0,E'.boxes r=some cs/\w'.heap[blk' r]?=some (.cells c T (0,0))/\Bh w' cs c.toList F0 U/\F=blk' r::F0):=by
  intro r hm hb h;obtain⟨h1,h2⟩:=hb;rw[h1,h2]
  rcases h with h|⟨cs,c,T,F0,h3,h4,h5,rfl⟩
  ·exact .inl h
  grind [Es]
 cases r with
 |slot n=>grind [Ek,ET]
 |hand=>trivial
 |box n=>exact d (.box n) rfl (e rfl) h
 |ext n=>exact d (.ext n) rfl (e rfl) h
theorem Ca.two {w0:Base} {r1 r2:Root} {L1 L2 V1 V2:List Nat} (h:Ca w0 FA UA N w a E blk FS US) (h5:r1≠r2) (a2:(L1++L2).Nodup) (hL:∀b∈L1++L2,(b∈FS r1\/b∈FS r2\/w.heap.size<=b)/\b<w'.heap.size) (hV:∀b∈V1++V2,(∃s,b∈US s)\/((b∈FS r1\/b∈FS r2\/w.heap.size<=b)/\b∉L1++L2/\b<w'.heap.size)) (g:w.heap.size<=w'.heap.size) (a3:w'.os=w.os) (x:w'.tape=w.tape) (h6:w'.output=w.output) (f:∀b,b<w.heap.size->b∉FS r1->b∉FS r2->w'.heap[b]?=w.heap[b]?) (a4:∀s,Bw w w' a a' E E' blk blk' s) (o:∀n,Root.slot n≠r1->Root.slot n≠r2->E'.slots n=E.slots n/\a'.eval (.tmp n)=a.eval (.tmp n)) (p:∀s,s.mem=true->s≠r1->s≠r2->E'.boxes s=E.boxes s/\blk' s=blk s) (h1:ET w' a' E' blk' r1 L1 V1) (h2:ET w' a' E' blk' r2 L2 V2) (y:E'.boxes .hand=none) (h7:N<=a'.tmps.size) (h8:a'.defers=[]) (hx:∀i,blk' (.ext i)=blk (.ext i):=by first|(intro i;rfl)|(intro i;simp[Bp])) (hfz:∀n,E'.fz=some n->mN w0 a' n:=by first|exact h.frz|(intro n hn;(try simp only[NX,Fi]at hn);exact h.frz n hn)|(intro n hn;(try simp only[NX,Fi]at hn);obtain⟨k1,k2⟩:=Tl hn;(try simp only[NX,Fi]at k1);exact(h.frz n k1).same (Da k2))) (hamb:E'.amb=E.amb:=by first|rfl|(simp only[JT,Cv];done)|(simp only[kN,JT,Cv];done)):
  Ca w0 FA UA N w' a' E' blk' (Bp (Bp FS r1 L1) r2 L2) (Bp (Bp US r1 V1) r2 V2):=by
 have eF1:Bp (Bp FS r1 L1) r2 L2 r1=L1:=by rw[AI h5,Bm]
 have eF2:Bp (Bp FS r1 L1) r2 L2 r2=L2:=Bm _ _ _
 have eF:∀s,s≠r1->s≠r2->Bp (Bp FS r1 L1) r2 L2 s=FS s:=λs h1 h2=>by grind [AI]
 have eU1:Bp (Bp US r1 V1) r2 V2 r1=V1:=by rw[AI h5,Bm]
 have eU2:Bp (Bp US r1 V1) r2 V2 r2=V2:=Bm _ _ _
 have eU:∀s,s≠r1->s≠r2->Bp (Bp US r1 V1) r2 V2 s=US s:=λs h1 h2=>by grind [AI]
 obtain⟨a9,b0,b1⟩:=Bx.1 a2
 have b2:∀b∈L1,b∈L1++L2:=λb hb=>B8 _ hb
 have b3:∀b∈L2,b∈L1++L2:=λb hb=>Bq _ hb
 have a1:∀s,s≠r1->s≠r2->∀b∈FS s,b∉L1++L2:=by
  intro s c d b hb z
  rcases(hL b z).1 with hx|hx|hx
  ·exact h.dis s r1 c b hb hx
  ·exact h.dis s r2 d b hb hx
  have:=(h.inF s b hb).2;omega
 have h9:∀s,∀b∈US s,b∉L1++L2:=by
  intro s b hb z
  rcases(hL b z).1 with hx|hx|hx
  ·exact h.disU r1 s b hx hb
  ·exact h.disU r2 s b hx hb
  have:=(h.inU s b hb).2;omega
 have h0:∀s,s≠r1->s≠r2->∀b∈FS s,w'.heap[b]?=w.heap[b]? :=λs c d b hb=>f b (h.inF s b hb).2 (λe=>h.dis s r1 c b hb e) λe=>h.dis s r2 d b hb e
 have q:∀s,∀b∈US s,w'.heap[b]?=w.heap[b]? :=λs b hb=>f b (h.inU s b hb).2 (λe=>h.disU r1 s b e hb) λe=>h.disU r2 s b e hb
 have u:∀r,ET w' a' E' blk' r (Bp (Bp FS r1 L1) r2 L2 r) (Bp (Bp US r1 V1) r2 V2 r):=by
  intro r;by_cases j:r=r1
  ·grind
  by_cases k:r=r2
  ·grind
  rw[eF r j k,eU r j k];exact Rc a4 (h.root r) (λn hn=>o n (hn▸j)<|hn▸k) (λhm=>p r hm j k) (h0 r j k)<|q r
 have l:∀s,∀b∈Bp (Bp FS r1 L1) r2 L2 s,b∈L1++L2\/(s≠r1/\s≠r2/\b∈FS s):=by
  intro s b hb;by_cases d:s=r2
  ·grind
  by_cases c:s=r1
  ·grind
  grind
 have v:∀s,∀b∈Bp (Bp US r1 V1) r2 V2 s,(∃t,b∈US t)\/((b∈FS r1\/b∈FS r2\/w.heap.size<=b)/\b∉L1++L2/\b<w'.heap.size):=by
  intro s b hb;by_cases d:s=r2
  ·grind
  by_cases c:s=r1
  ·grind
  grind
 constructor
 ·intro n;exact u<|.slot n
 ·intro r hr;have:=u r;cases r<;>first|exact this|cases hr
 ·exact y
 ·intro s;by_cases d:s=r2
  ·grind
  by_cases c:s=r1
  ·grind
  rw[eF s c d];exact h.nodup s
 ·intro s s' a5 b hb hb';by_cases d:s=r2
  ·subst d;rw[eF2]at hb;by_cases hs1':s'=r1
   ·grind
   grind
  by_cases c:s=r1
  ·subst c;by_cases hs2':s'=r2
   ·grind
   grind
  rw[eF s c d]at hb
  rcases l s' b hb' with hx|⟨_,_,hx⟩
  ·grind
  exact h.dis s s' a5 b hb hx
 ·intro s s' b hb hb'
  rcases l s b hb with hx|⟨c,d,hx⟩
  ·grind
  rcases v s' b hb' with⟨t,hy⟩|⟨hy|hy|hy,_,_⟩
  ·exact h.disU s t b hx hy
  ·exact h.dis s r1 c b hx hy
  ·exact h.dis s r2 d b hx hy
  grind
 ·intro s b hb
  rcases l s b hb with hx|⟨c,d,hx⟩
  ·obtain⟨hy,h3⟩:=hL b hx;refine⟨?_,h3⟩
   rcases hy with hy|hy|hy
   ·exact(h.inF r1 b hy).1
   ·exact(h.inF r2 b hy).1
   exact .inr<|Nw h.size hy
  exact⟨(h.inF s b hx).1,BC (h.inF s b hx).2 g⟩
 ·intro s b hb
  rcases v s b hb with⟨t,hy⟩|⟨hy,_,h3⟩
  ·exact⟨(h.inU t b hy).1,BC (h.inU t b hy).2 g⟩
  refine⟨.inr ?_,h3⟩
  rcases hy with hy|hy|hy
  ·exact(h.inF r1 b hy).1
  ·exact(h.inF r2 b hy).1
  exact .inr<|Nw h.size hy
 ·exact h.disA
 ·exact a3.trans h.os
 ·exact x.trans h.tape
 ·exact h6.trans h.output
 ·exact Nw h.size g
 ·intro b hb a0 a6
  have m:∀r,b∉FS r:=λr h4=>by
   rcases(h.inF r b h4).1 with hx|hx
   ·exact a0 hx
   omega
  rw[f b (BC hb h.size) (m r1)<|m r2];exact h.keep b hb a0 a6
 ·exact h7
 ·exact h8
 ·exact λi=>(hx i).trans<|h.xblk i
 ·rw[hamb];exact h.ambB
 ·rw[hamb]
  refine E.amb.st w w' h.ambI λb hb=>?_
  rw[<-h.ambB]at hb;obtain⟨a7,a8,_⟩:=h.ambF b hb
  have m:∀r,b∉FS r:=λr h4=>by
   rcases(h.inF r b h4).1 with hx|hx
   ·exact a8 hx
   omega
  exact f b (BC a7 h.size) (m r1)<|m r2
 ·exact hfz
 ·exact h.ambF
 rw[hamb];exact h.pin
theorem Ln {w0:Base} {t x:TV} (h:Ca w0 FA UA N w a E blk FS US) (hc:CI w a E blk t v [] U) (hU:∀b∈U,∃r,b∈US r) (ht:D1 E t=some (x,E')):
  ∃FS' US' F1 U1,DD w x v F1 U1/\Ca w0 FA UA N w a E' blk FS' US'/\FS' .hand=FS .hand++F1/\US' .hand=US .hand++U1/\(∀s,Bw w w a a E E' blk blk s)/\(∀s b,b∈US s->∃s',b∈US' s'):=by
 have p:∀(s:Root) (b:Nat) (U1:List Nat),b∈US s->∃s',b∈Bp US .hand (US .hand++U1) s':=by
  intro s b U1 hb;by_cases hs:s= .hand
  ·subst hs;exact⟨.hand,by grind [Bm]⟩
  exact⟨s,by grind [AI]⟩
 have copy:∀{x:TV} {U1:List Nat},DD w x v [] U1->(∀b∈U1,∃r,b∈US r)->E'=E->
   ∃FS' US' F1 U1,DD w x v F1 U1/\Ca w0 FA UA N w a E' blk FS' US'/\FS' .hand=FS .hand++F1/\US' .hand=US .hand++U1/\(∀s,Bw w w a a E E' blk blk s)/\(∀s b,b∈US s->∃s',b∈US' s'):=by
  rintro x U1 hr u rfl;exact⟨FS,_,[],U1,hr,h.handU u,by simp,by rw[Bm],λs=>Bw.refl,λs b hb=>p s b U1 hb⟩
 cases t with
 |int k n=>
  obtain⟨rfl,rfl⟩:=ht;exact copy hc hU rfl
 |bool b=>
  obtain⟨rfl,rfl⟩:=ht;exact copy hc hU rfl
 |str s=>
  obtain⟨rfl,rfl⟩:=ht;exact copy hc hU rfl
 |fn f ta cap=>
  obtain⟨rfl,rfl⟩:=ht;exact copy hc hU rfl
 |adr _=>
  obtain⟨rfl,rfl⟩:=ht;exact copy hc hU rfl
 |hdr _ _ _=>
  obtain⟨rfl,rfl⟩:=ht;exact copy hc hU rfl
 |ptr r ver q j=>simp[D1]at ht
 |junk=>simp[D1]at ht
 |sl o e sz i=>
  simp only[D1]at ht;obtain⟨rfl,rfl⟩:=ht;exact copy hc hU rfl
 |view r ver q j=>
  obtain⟨_,_,_,y⟩:=hc;simp only[D1,YW]at ht;split at ht
  ·rename_i l;obtain⟨z,_⟩:=y l;split at ht
   ·rename_i e sz i h1;split at ht
    ·rename_i h6;split at ht
     ·rename_i cs d;obtain⟨rfl,rfl⟩:=ht;have h2:Ji cs q=true:=by grind [St.ownAt]
      obtain⟨F1,U1,G,V,hr,h3,m⟩:=fC h h1 h2 d z
      have g:∀s,Bw w w a a E ((E.setRoot r<|Cs cs q λh4=>h4.set j .junk).bump r) blk blk s:=λs=>So (λ_ cs0 h0=>by
       rw[d]at h0
       injection h0 with h0
       subst h0
       cases q with
       |nil=>simp[Cs]
       |cons c q=>grind [Cs]) s
      refine⟨_,_,F1,U1,hr,m,by rw[Bm],by rw[Bm],g,λs b hb=>?_⟩;by_cases hs:s= .hand
      ·subst hs;exact⟨.hand,by grind [Bm]⟩
      by_cases h5:s=r
      ·subst h5
       rcases h3 b hb with hx|hx
       ·exact⟨s,by grind [AI,Bm]⟩
       exact⟨.hand,by grind [Bm]⟩
      exact⟨s,by grind [AI]⟩
     cases ht
    cases ht
   ·grind [JI,DX]
   cases ht
  cases ht
theorem VA:∀(cs:List TV) (q:List Nat),Bg (Cs cs q f) q=(Bg cs q).map f
 |cs,[]=>rfl
 |cs,c::q=>by
  simp only[Cs,Bg]
  cases h:cs[c]? with
  |none=>simp[h]
  |some t=>
   cases t with
   |sl o e sz cells=>
    have a:c<cs.length:=by grind
    simp only[He,Do,Bc a];exact VA cells q
   |_=>simp[h]
theorem e7 (hf:∀l,(f l).length=l.length) (cs:List TV) (q:List Nat):(Cs cs q f).length=cs.length:=by
 cases q with
 |nil=>exact hf cs
 |cons c q=>grind [Cs]
theorem cZ {ver j':Nat} {x:TV} (h:D1 E (.view r ver q j)=some (x,E1)) (hj:j'≠j):E1.place r q j'=E.place r q j':=by
 simp only[D1,YW]at h;split at h
 ·split at h
  ·rename_i e sz cells g;split at h
   ·split at h
    ·rename_i cs a;simp only[An,Prod.mk.injEq]at h;obtain⟨rfl,rfl⟩:=h;have c:(Cs cs q λb=>b.set j .junk).length=cs.length:=e7 (λl=>by simp) cs q;have f:((E.setRoot r<|Cs cs q λb=>b.set j .junk).bump r).root r=some (Cs cs q λb=>b.set j .junk):=by
      rw[Le];generalize Cs cs q (λb=>b.set j .junk)=X at c
      cases r with
      |slot n=>
       simp only[St.root,An]at a;simp only[St.setRoot,St.root,Bp,Do,An]
       cases d:E.slots n with
       |one t=>
        rw[d]at a;simp only[SV.cells]at a;subst a
        match X,c with
        |[y],_=>rfl
       |agg ts=>rfl
       |tup ss=>
        rw[d]at a;simp only[SV.cells]at a;subst a
        match X,c with
        |[],_=>rfl
      |box n=>exact Ke rfl
      |ext n=>exact Ke rfl
      |hand=>rfl
     simp only[St.place,f,a,Aa,VA]
     cases Bg cs q with
     |none=>rfl
     |some b=>grind
    cases h
   cases h
  ·grind
  cases h
 cases h
theorem kK {t x u:TV} (ht:D1 E t=some (x,E1)) (hs:∀r,Bw w w a a E E1 blk blk r) (h:CI w a E blk u v F U):CI w a E1 blk (nV E E1 t u) v F U:=by
 have h0:=Mh hs h (λ_ _=>rfl) λ_ _=>rfl
 cases t with
 |view r ver q j=>
  cases u with
  |view r' v' q' j'=>
   simp only[nV];split
   ·rename_i hc;obtain⟨rfl,h1,rfl,h2⟩:=hc;obtain⟨rfl,rfl,h3,h4⟩:=h;obtain⟨h5,h6⟩:=h4 h1;exact⟨rfl,rfl,A5 _,λ_=>⟨h5,by grind [cZ]⟩⟩
   exact h0
  |_=>exact h0
 |_=>exact h0
theorem XP {t x:TV} (ht:D1 E t=some (x,E1)) (hs:∀r,Bw w w a a E E1 blk blk r):∀{us:List TV} {vs:List Value} {F U:List Nat},BG w a E blk us vs F U->BG w a E1 blk (us.map (nV E E1 t)) vs F U
 |[],_,_,_,h=>h
 |u::us,vs,F,U,h=>by
  obtain⟨v,b,F1,F2,U1,U2,h1,h2,h3,h4,h5⟩:=h;exact⟨v,b,F1,F2,U1,U2,h1,h2,h3,kK ht hs h4,XP ht hs h5⟩
theorem Il {w0:Base}:∀(n:Nat) {ts xs:List TV} {vs:List Value} {U:List Nat} {E E':St} {FS US:Root->List Nat},ts.length=n->Ca w0 FA UA N w a E blk FS US->BG w a E blk ts vs [] U->(∀b∈U,∃r,b∈US r)->Ej E ts=some (xs,E')->
  ∃FS' US' F1 U1,Bh w xs vs F1 U1/\Ca w0 FA UA N w a E' blk FS' US'/\FS' .hand=FS .hand++F1/\US' .hand=US .hand++U1/\(∀s,Bw w w a a E E' blk blk s)/\(∀s b,b∈US s->∃s',b∈US' s')
 |_,[],xs,vs,U,E,E',FS,US,hn,h,hc,hU,ht=>by
  obtain⟨rfl,rfl⟩:=ht;obtain⟨rfl,_,rfl⟩:=hc;simp_all [Bw.refl,Bh];grind
 |0,t::ts,xs,vs,U,E,E',FS,US,hn,h,hc,hU,ht=>by cases hn
 |n+1,t::ts,xs,vs,U,E,E',FS,US,hn,h,hc,hU,ht=>by
  rw[MD]at ht;obtain⟨v,d,F1,F2,U1,U2,rfl,hF,rfl,h1,h2⟩:=hc;have hF':=Gs.1 hF.symm;obtain⟨rfl,rfl⟩:=hF';split at ht
  ·rename_i x E1 hx;split at ht
   ·rename_i xs' E2 c;obtain⟨rfl,rfl⟩:=ht;obtain⟨FSa,USa,Fa,Ua,a1,a2,a3,a4,a5,a6⟩:=Ln h h1 (λb hb=>hU b<|by simp[hb]) hx
    obtain⟨FSb,USb,Fb,Ub,b1,b2,b3,b4,b5,b6⟩:=Il n (by simpa using hn) a2 (XP hx a5 h2) (λb hb=>by
     obtain⟨r,hr⟩:=hU b<|by simp[hb]
     exact a6 r b hr) c
    refine⟨FSb,USb,Fa++Fb,Ua++Ub,?_,b2,by grind,by grind,λs=>(a5 s).trans<|b5 s,λs b hb=>?_⟩
    ·grind [Bh]
    grind
   cases ht
  cases ht
theorem Pd {w0:Base} {s:Root} (h:Ca w0 FA UA N w a E blk FS US) (f:E'.ver s=E.ver s) (g:E'.gen s=E.gen s) (k:E'.root s=E.root s) (e:∀c u,Bk w a blk s c=some u->Bk w' a' blk' s c=some u) (d:s.mem=true->blk' s=blk s) (hF:∀b∈FS s,w'.heap[b]?=w.heap[b]?) (hU:∀b∈US s,w'.heap[b]?=w.heap[b]?):Bw w w' a a' E E' blk blk' s:=by
 have o:∀q j,E'.place s q j=E.place s q j:=λq j=>by grind [St.place]
 have i:∀q j ad,pa w a blk s q j=some ad->(E.place s q j).isSome=true->pa w' a' blk' s q j=some ad:=?_;refine⟨.inr ⟨f,λq j v hv hs=>⟨?_,by grind⟩,λq j ad _ hv hs=>⟨i q j ad hv hs,by grind⟩⟩,.inr ⟨g,λj ad hv hs=>⟨i [] j ad hv hs,by grind⟩⟩⟩
 ·cases q with
  |nil=>exact e j v hv
  |cons c q=>
   unfold St.place at hs
   cases hr:E.root s with
   |none=>grind [F7]
   |some cs=>
    rw[hr]at hs;simp only[Aa]at hs
    cases hc:Bg cs (c::q)with
    |none=>grind [F7]
    |some row=>
     rw[hc]at hs;obtain⟨rvs,F1,U1,h1,h2,h3,l,h4,h5⟩:=LP h hr hc
     cases hj:row[j]? with
     |none=>grind [F7]
     |some t=>
      have hl:=Cl h1;have m:=(Ae.1 hj).1;obtain⟨ad,hk⟩:=h5 j _<|Ab<|by omega
      grind [pv]
 intro q j ad hv hs
 cases q with
 |nil=>
  simp only[pa]at hv⊢
  cases s with
  |slot n=>cases hv
  |box n=>simp only[d rfl];exact hv
  |ext n=>simp only[d rfl];exact hv
  |hand=>cases hv
 |cons c q=>
  unfold St.place at hs
  cases hr:E.root s with
  |none=>simp[hr]at hs
  |some cs=>
   rw[hr]at hs;simp only[Aa]at hs
   cases hc:Bg cs (c::q)with
   |none=>simp[hc]at hs
   |some row=>
    rw[hc]at hs;obtain⟨rvs,F1,U1,h1,h2,h3,l,h4,h5⟩:=LP h hr hc
    cases hj:row[j]? with
    |none=>simp[hj]at hs
    |some t=>
     have hl:=Cl h1;have m:=(Ae.1 hj).1;obtain⟨ad',hk⟩:=h5 j _<|Ab<|by omega
     grind [pa]
theorem MY {s:Root} (d:∀n,s= .slot n->a'.eval (.tmp n)=a.eval (.tmp n)) (b:s.mem=true->blk' s=blk s/\w'.heap[blk s]?=w.heap[blk s]?) (hh:s≠ .hand) (c:Nat) (u:Value):
  Bk w a blk s c=some u->Bk w' a' blk' s c=some u:=by
 cases s with
 |slot n=>grind [Bk]
 |box n=>
  obtain⟨h1,h2⟩:=b rfl
  grind [World.cell?_of_block,Jv,Bk]
 |ext n=>
  obtain⟨h1,h2⟩:=b rfl
  grind [World.cell?_of_block,Jv,Bk]
 |hand=>exact absurd rfl hh
theorem Ff {s:Root} {blk blk':Root->Nat} (b:E'.ver s=E.ver s) (c:E'.gen s=E.gen s) (hr:E.root s=none):Bw w w' a a' E E' blk blk' s:=by
 refine⟨.inr ⟨b,λq j v hv hs=>?_,λq j ad _ hv hs=>?_⟩,.inr ⟨c,λj ad hv hs=>?_⟩⟩
 ·grind [St.place,F7]
 ·grind [St.place]
 grind [St.place]
theorem DS {w0:Base} {s:Root} (h:Ca w0 FA UA N w a E blk FS US) (c:E'.ver s=E.ver s) (d:E'.gen s=E.gen s) (f:E'.root s=E.root s) (g:∀n,s= .slot n->a'.eval (.tmp n)=a.eval (.tmp n)) (e:s.mem=true->blk' s=blk s) (hF:∀b∈FS s,w'.heap[b]?=w.heap[b]?) (hU:∀b∈US s,w'.heap[b]?=w.heap[b]?):Bw w w' a a' E E' blk blk' s:=by
 by_cases hh:s= .hand
 ·subst hh;exact Ff c d<|by simp[St.root,h.nohand]
 by_cases hm:s.mem=true
 ·cases hb:E.boxes s with
  |none=>
   have hr:E.root s=none:=by simp_all [St.root,Root.mem];grind
   grind [Ff]
  |some cs=>
   refine Pd h c d f (MY g (λ_=>⟨e hm,?_⟩) hh) e hF hU
   rcases h.box s hm with⟨h1,_⟩|⟨cs',i,T,F,_,_,_,h4⟩
   ·grind
   grind
 grind [Pd,MY]
def St.newBox (E:St) (d:Nat) (xs:List TV):St:=let E1:St:={E with boxes:=Bp E.boxes (.box d)<|some xs,ver:=Bp E.ver (.box d)<|E.ver (.box d)+1,gen:=Bp E.gen (.box d) (E.gen (.box d)+1)}
 E1.put (some d) (.one<|.ptr (.box d) (E1.gen<|.box d) [] 0)
theorem Ca.newBox {w0:Base} {T:TypeId} (h:Ca w0 FA UA N w a E blk FS US) (hd:d<N) (o:xs≠ []) (hr:Bh w xs vs (FS .hand) (US .hand)):
  ∃blk' FS' US',Ca w0 FA UA N (w.alloc (.cells vs.toArray T)) (a.put (some d) (.pointer (some ⟨w.heap.size,0,none⟩))) (E.newBox d xs) blk' FS' US'/\FS' .hand=[]/\US' .hand=[]:=by
 let E1:St:={E with boxes:=Bp E.boxes (.box d)<|some xs,ver:=Bp E.ver (.box d)<|E.ver (.box d)+1,gen:=Bp E.gen (.box d) (E.gen (.box d)+1)}
 let blk1:=Bp blk (.box d) w.heap.size
 let w1:=w.alloc<|.cells vs.toArray T
 have p:w1.heap.size=w.heap.size+1:=by simp[w1]
 have k:w1.heap[w.heap.size]?=some (.cells vs.toArray T (0,0)):=by
  show(w.heap.push _)[w.heap.size]?=_;simp
 have c:∀b,b<w.heap.size->w1.heap[b]?=w.heap[b]? :=λb hb=>Below.heap_alloc _ _ _ hb
 have f:Root.box d≠Root.hand:=by simp
 have g:∀s,Bw w w1 a a E E1 blk blk1 s:=by
  intro s;by_cases hs:s= .box d
  ·subst hs;exact⟨.inl (by simp[E1,Bp]),.inl<|by simp[E1,Bp]⟩
  have hv:E1.ver s=E.ver s:=by grind [Bp]
  have hg:E1.gen s=E.gen s:=by grind [Bp]
  refine DS h hv hg ?_ (λ_ _=>rfl) (λ_=>by grind [Bp]) (λb hb=>c b (h.inF s b hb).2) λb hb=>c b (h.inU s b hb).2;cases s<;>simp_all [E1,St.root,Bp]
 have i:∀b∈FS .hand,b<w.heap.size:=λb hb=>(h.inF .hand b hb).2
 have l:∀b∈US .hand,b<w.heap.size:=λb hb=>(h.inU .hand b hb).2
 have h1:=h.two (w':=w1) (a':=a) (E':=E1) (blk':=blk1) (r1:= .box d) (r2:= .hand) (L1:=w.heap.size::FS .hand) (L2:=[]) (V1:=US .hand) (V2:=[]) f
  (by
   simp only[AQ,Dj]
   exact⟨λe=>Nat.lt_irrefl _<|i _ e,h.nodup _⟩)
  (by grind)
  (by grind)
  (by omega) rfl rfl rfl (λb hb _ _=>c b hb) g
  (λn _ _=>⟨rfl,rfl⟩)
  (λs _ hs _=>⟨by grind [Bp],by grind [Bp]⟩)
  (by
   refine .inr ⟨xs,vs.toArray,T,FS .hand,by simp[E1,Bp],by grind [Bp],?_,by simp[blk1,Bp]⟩
   grind [Es])
  trivial (by simp[E1,Bp,h.nohand]) h.len h.nodef
 have j:GI w1 a E1 blk1 (.one<|.ptr (.box d) (E1.gen<|.box d) [] 0) (.pointer<|some ⟨w.heap.size,0,none⟩) [] []:=by
  have m:E1.stamp (.box d) []=E1.gen (.box d):=rfl
  grind [P2,St.place,St.root,Bp,Bg,pa,Addr.add]
 have h2:=h1.put (d:=d) hd j Xh.none;refine⟨blk1,_,_,h2,?_,?_⟩
 ·rfl
 rfl
def SV.plain:SV->Bool
 | .one .junk=>false
 | .tup _=>false
 |_=>true
def IM (E:St) (s:SV):Option (List TV×St):=if s.plain=true then Ej E s.cells else none
theorem Sl (h:GI w a E blk s v [] U) (hp:s.plain=true):BG w a E blk s.cells v.cells.toList [] U:=by
 cases s with
 |one t=>
  have hj:t.isJunk=false:=by cases t<;>first|rfl|cases hp
  rw[h.2 hj];exact⟨v,[],[],[],U,[],rfl,rfl,by simp,h.1,rfl,rfl,rfl⟩
 |agg cs=>
  obtain⟨vs,rfl,hc⟩:=h
  grind [Value.cells,SV.cells]
 |tup ss=>cases hp
theorem HI {w0:Base} (h:Ca w0 FA UA N w a E blk FS US) (hs:GI w a E blk s v [] U) (hU:∀b∈U,∃r,b∈US r) (ht:IM E s=some (xs,E')):
  ∃FS' US' F1 U1,Bh w xs v.cells.toList F1 U1/\Ca w0 FA UA N w a E' blk FS' US'/\FS' .hand=FS .hand++F1/\US' .hand=US .hand++U1/\(∀s,Bw w w a a E E' blk blk s)/\(∀s b,b∈US s->∃s',b∈US' s'):=by
 unfold IM at ht;split at ht
 ·rename_i hp;exact Il _ rfl h (Sl hs hp) hU ht
 cases ht
theorem Xy {w0:Base} (h:Ca w0 FA UA N w a E blk FS US) (hk:∀r,r≠ .slot d->(∀b∈FS r,w'.heap[b]?=w.heap[b]?)/\∀b∈US r,w'.heap[b]?=w.heap[b]?) (r:Root):
  Bw w w' a (a.put (some d) v) E (E.put (some d) s) blk blk r:=by
 by_cases hr:r= .slot d
 ·subst hr;exact⟨.inl (by rw[OA];omega),.inr ⟨by rw[LO],λj ad h1 _=>by simp[pa]at h1⟩⟩
 grind [DS,RL,LO,SG,Da]
theorem Ca.newRow {w0:Base} (h:Ca w0 FA UA N w a E blk FS US) (hd:d<N) (hr:Bh w xs vs (FS .hand) (US .hand)) (hn:xs.length=n*sz) (hm:n<=maxLen):
  ∃FS' US',Ca w0 FA UA N (w.alloc (.cells vs.toArray e)) (a.put (some d) (.slice (some ⟨w.heap.size,0,none⟩) n n)) (E.put (some d) (.one (.sl true e sz xs))) blk FS' US'/\FS' .hand=[]/\US' .hand=[]:=by
 let w1:=w.alloc<|.cells vs.toArray e
 have o:w1.heap.size=w.heap.size+1:=by simp[w1]
 have f:w1.heap[w.heap.size]?=some (.cells vs.toArray e (0,0)):=by
  show(w.heap.push _)[w.heap.size]?=_;simp
 have c:∀b,b<w.heap.size->w1.heap[b]?=w.heap[b]? :=λb hb=>Below.heap_alloc _ _ _ hb
 have g:∀b∈FS .hand,b<w.heap.size:=λb hb=>(h.inF .hand b hb).2
 have i:∀b∈US .hand,b<w.heap.size:=λb hb=>(h.inU .hand b hb).2
 have hl:=Cl hr;have j:=Xy (w':=w1) h (d:=d) (s:= .one (.sl true e sz xs)) (v:= .slice (some ⟨w.heap.size,0,none⟩) n n) λr _=>⟨λb hb=>c b (h.inF r b hb).2,λb hb=>c b (h.inU r b hb).2⟩;have h1:=h.two (w':=w1) (a':=a.put (some d)<|.slice (some ⟨w.heap.size,0,none⟩) n n) (E':=E.put (some d)<|.one<|.sl true e sz xs) (blk':=blk) (r1:= .slot d) (r2:= .hand) (L1:=w.heap.size::FS .hand) (L2:=[]) (V1:=US .hand) (V2:=[]) (by simp)
  (by
   simp only[AQ,Dj]
   exact⟨λe=>Nat.lt_irrefl _<|g _ e,h.nodup _⟩)
  (by grind)
  (by grind)
  (by omega) rfl rfl rfl (λb hb _ _=>c b hb) j
  (λm p _=>by simp_all [Da,St.put,Bp])
  (λs hm hs _=>⟨rfl,rfl⟩)
  (by
   have k:(a.put (some d)<|.slice (some ⟨w.heap.size,0,none⟩) n n).eval (.tmp d)= .slice (some ⟨w.heap.size,0,none⟩) n n:=IJ<|BC hd h.len;have l:(E.put (some d)<|.one<|.sl true e sz xs).slots d= .one (.sl true e sz xs):=by simp[St.put,Bp]
   simp only[ET,k,l,GI,CI,DD];refine⟨⟨n,vs,FS .hand,⟨by omega,.inr ⟨w.heap.size,n,vs.toArray,rfl,Mm _,f,A5 _,hm,by simp;omega,?_⟩⟩,Es hr (λb hb=>c b<|g b hb) λb hb=>c b<|i b hb,by rfl⟩,λ_=>rfl⟩
   grind)
  trivial h.nohand (by rw[Nb];exact h.len) (by rw[JG];exact h.nodef)
 grind [Bm]
def CB (w w':World):Prop:=w.heap.size<=w'.heap.size/\∀b,b<w.heap.size->w'.heap[b]?=w.heap[b]?
theorem CB.refl:CB w w:=⟨A5 _,λ_ _=>rfl⟩
theorem CB.trans (h:CB w1 w2) (k:CB w2 w3):CB w1 w3:=⟨Nw h.1 k.1,λb hb=>(k.2 b<|BC hb h.1).trans<|h.2 b hb⟩
theorem CB.alloc {o:Obj}:CB w (w.alloc o):=⟨by simp,λb hb=>Below.heap_alloc _ _ _ hb⟩
def kp (o:Oper):Bool:=match o.op with
 | .store .. =>false
 | .call c=>match c.callee with
  | .builtin .append=>match c.args.toList with
   | .const _::_=>true
   |_=>false
  | .builtin _=>true
  |_=>false
 |_=>true
def CV (P:Program) (w0:Base) (FA UA:List Nat) (N:Nat) (w:World) (a:Act) (o:Oper) (E':St):Prop:=∃nx w' v blk' FS' US',(execOp a.eval o).run P w= .ok nx w'/\(nx= .value v\/nx= .skip/\v=undef)/\Ca w0 FA UA N w' (a.put o.dst v) E' blk' FS' US'/\FS' .hand=[]/\US' .hand=[]/\(kp o=true->CB w w')
section
variable (P:Program)
def Jx:List TypeId->List Value->Option (List TV)
 |[],[]=>some []
 |t::ts,v::vs=>match NU P t v,Jx ts vs with
  |some x,some xs=>some (x::xs)
  |_,_=>none
 |_,_=>none
end
def Ii (P:Program) (t:TypeId):Option (List TV):=match P.info? t with
 |some i=>match i.zero,P.cellTypes P.depth t with
  |some z,some ts=>if z.cells.size=P.cellsOf t then Jx P ts z.cells.toList else none
  |_,_=>none
 |none=>none
def ZL (P:Program) (E:St) (d:Nat) (t:TypeId) (x:Operand):Option St:=match E.val P t x with
 |some s=>match IM E s with
  |some (xs,E1)=>if xs.isEmpty=true then none else some<|E1.newBox d xs
  |none=>none
 |none=>none
def Tz (P:Program) (E:St) (d:Nat) (t:TypeId):Option St:=match Ii P t with
 |some xs=>if xs.isEmpty=true then none else some<|E.newBox d xs
 |none=>none
def RT (P:Program) (E:St) (d:Nat) (t:TypeId) (l c:Operand):Option St:=match P.underlying t,E.cell1 P 0 l,E.cell1 P 0 c with
 |some (.slice e),some<|.int _ n,some (.int _ m)=>match Ii P e with
  |some zs=>if n=m/\0<=n/\(P.bytesOf e:Int)*n<=281474976710656/\n<=9223372036854775807 then some (E.put (some d)<|.one<|.sl true e (P.cellsOf e) (List.replicate n.toNat zs).flatten)else none
  |none=>none
 |_,_,_=>none
theorem OU:∀{ts:List TypeId} {vs:List Value} {xs:List TV},Jx P ts vs=some xs->Bh w xs vs [] []
 |[],[],xs,h=>by grind [Jx,Bh]
 |t::ts,v::vs,xs,h=>by
  simp only[Jx]at h;split at h
  ·rename_i x xs' hx a
   injection h with h
   subst h;exact⟨v,vs,[],[],[],[],rfl,rfl,rfl,(VB hx).1,OU a⟩
  cases h
 |[],v::vs,xs,h=>by simp[Jx]at h
 |t::ts,[],xs,h=>by simp[Jx]at h
theorem GF (h:Ii P t=some xs):∃i z,P.info? t=some i/\i.zero=some z/\z.cells.size=P.cellsOf t/\Bh w xs z.cells.toList [] []:=by grind [OU,Ii]
theorem GQ:∀{xs ys:List TV} {vs us:List Value} {F G U V:List Nat},Bh w xs vs F U->Bh w ys us G V->Bh w (xs++ys) (vs++us) (F++G) (U++V)
 |[],ys,vs,us,F,G,U,V,h,k=>by grind [Bh]
 |x::xs,ys,vs,us,F,G,U,V,h,k=>by
  obtain⟨v,a,F1,F2,U1,U2,rfl,rfl,rfl,h1,h2⟩:=h;exact⟨v,a++us,F1,F2++G,U1,U2++V,rfl,by simp,by simp,h1,GQ h2 k⟩
theorem JF (h:Bh w xs vs [] []):∀n,Bh w (List.replicate n xs).flatten (List.replicate n vs).flatten [] []
 |0=>by simp[Bh]
 |n+1=>by
  exact GQ h (JF h n)
theorem CV.box {w0:Base} (h:Ca w0 FA UA N w a E blk FS US) (hF:FS .hand=[]) (hU:US .hand=[]) (ho:o.op= .box t x) (hd:o.dst=some d) (hN:d<N) (he:ZL P E d t x=some E'):CV P w0 FA UA N w a o E':=by
 unfold ZL at he;split at he
 ·rename_i s hs;split at he
  ·rename_i xs E1 hx;split at he
   ·cases he
   rename_i b
   injection he with he
   subst he;obtain⟨U,h1,h2⟩:=IY h hs;obtain⟨FS1,US1,F1,U1,h3,h4,h5,h6,_,_⟩:=HI h h1 h2 hx;rw[hF,Ao]at h5;rw[hU,Ao]at h6;subst h5 h6;obtain⟨blk',FS',US',h7,h8,h9⟩:=h4.newBox (T:=t) hN (by grind) h3;refine⟨.value<|.pointer<|some ⟨w.heap.size,0,none⟩,_,_,blk',FS',US',?_,.inl rfl,by rw[hd];exact h7,h8,h9,λ_=>CB.alloc⟩;simp_all [execOp,Instr.box,newVar,newRow]
  cases he
 cases he
theorem CV.alloc {w0:Base} (h:Ca w0 FA UA N w a E blk FS US) (hF:FS .hand=[]) (hU:US .hand=[]) (ho:o.op= .alloc t) (hd:o.dst=some d) (hN:d<N) (he:Tz P E d t=some E'):CV P w0 FA UA N w a o E':=by
 unfold Tz at he;split at he
 ·rename_i xs hx;split at he
  ·cases he
  rename_i b
  injection he with he
  subst he;obtain⟨i,z,hi,hz,hs,hr⟩:=GF (w:=w) hx;obtain⟨blk',FS',US',h7,h8,h9⟩:=h.newBox (T:=t) (xs:=xs) hN (by grind) (by rw[hF,hU];exact hr);refine⟨.value<|.pointer<|some ⟨w.heap.size,0,none⟩,_,_,blk',FS',US',?_,.inl rfl,by rw[hd];exact h7,h8,h9,λ_=>CB.alloc⟩;simp_all [run_typeInfo,execOp,Instr.alloc,zeroValue,newVar,newRow]
 cases he
end Go.TI
