/- That sort.SliceStable sorts a row behind a variable. No condition. -/
import Derived.Test.YtcjepealfaimfaaGreatPOSOX
import Derived.Test.YtcjepealfaimfaaGreatPOSOA
import Derived.Test.YtcjepealfaimfaaGreatPOTIE
namespace Go.TI
open Go Go.Proofs Go.Lib Go.RowKit
set_option linter.unusedVariables false
set_option linter.unusedSimpArgs false
theorem stable_small {γ : Type} (lt : γ → γ → Bool) (l : List γ) (n : Nat) (hn : n ≤ 1) : sort_stable_func lt l (n : Int) = some l := by
  unfold sort_stable_func
  rw [loopO_eq]
  simp only [sort_stable_func_b1]
  rw [decide_eq_false (by omega : ¬(20 : Int) ≤ (n : Int)), cond_false]
  simp only [Option.bind_some, sort_insertionSort_func]
  rw [loopO_eq]
  simp only [sort_insertionSort_func_b1]
  rw [decide_eq_false (by rw [show ad 0 1 = 1 from rfl]; omega : ¬(ad 0 1) < (n : Int)), cond_false]
  simp only [Option.bind_some]
  rw [loopO_eq]
  simp only [sort_stable_func_b2]
  rw [decide_eq_false (by omega : ¬(20 : Int) < (n : Int)), cond_false]
  rfl
theorem less_none {P : Program} {A : Amb} {g : FuncId} {cap : Array Value} (hg : ∀ (args : Array Value) (w : World), (callFunc g args).run P w = .ok (.enter g args) w) : LessOk (γ := Empty) P (fun _ => A) (fun _ _ => false) g cap := ⟨hg, fun _ _ _ x => nomatch x⟩
theorem swap_none {P : Program} {A : Amb} {g : FuncId} {cap : Array Value} : SwapOk (γ := Empty) P (fun _ => A) g cap := fun _ _ _ x => nomatch x
set_option maxRecDepth 100000 in
theorem sort_SliceStable_at {γ : Type} {lt : γ → γ → Bool} {enc : γ → List TV} {t e sz lfn : Nat} (henc : ∀ x, (enc x).length = sz) {l r : List γ} (h : sort_stable_func lt l (ln l) = some r)
    (i ie : TypeInfo) (hi : Tryz.prog.info? t = some i) (hd : i.desc = .slice e) (hpk : Tryz.prog.packed t = false) (hie : Tryz.prog.info? e = some ie) (ke : Nat) (hke : ∀ w, (Extern.Rtype.kind e).run Tryz.prog w = .ok ke w) (hsz : ie.size = sz) (hagg : ∀ w, (isAgg e).run Tryz.prog w = .ok true w)
    (hg : ∀ (args : Array Value) (w : World), (callFunc lfn args).run Tryz.prog w = .ok (.enter lfn args) w)
    (hsw : ∀ n, ∃ f, Tryz.prog.funcs.findIdx? (·.name == "internal/reflectlite" ++ ".Swapper$" ++ toString (swapperK n ie ke)) = some f ∧ (2 ≤ n → 2 < swapperK n ie ke ∧ ∃ gS : Bool, ∀ args W, (callFunc f args).run Tryz.prog W = ((Extern.ReflectliteSwapper.swap gS args).run Tryz.prog W).andThen fun v w' => .ok (.value v) w'))
    (hless : ∀ (n b g cap : Nat) (T : TypeId), b ≠ g → LessOk Tryz.prog (rowAmb n b g cap e T sz enc) lt lfn #[.pointer (some ⟨b, 0, none⟩)]) : SortsAt Tryz.prog 159 t e sz enc lfn l r := by
  intro w b v T hb how hbv
  have hlt : b < w.heap.size := by
    rcases Nat.lt_or_ge b w.heap.size with q | q
    · exact q
    · rw [Array.getElem?_eq_none q] at hb; cases hb
  obtain ⟨f, hf, hsw2⟩ := hsw l.length
  have small : ∀ p n c, l.length ≤ 1 → v = .slice p n c → n = l.length → (∀ b ∈ blkOf v, b < w.heap.size) → Calls Tryz.prog 159 #[.iface t v, .func (.func lfn) #[] #[.pointer (some ⟨b, 0, none⟩)]] w fun r' w' => r' = .returned (.tuple #[]) ∧ Beside w w' (b :: blkOf v) ∧ w'.heap[b]? = some (.cells #[v] T (0, 0)) ∧ w'.ownsRow 0 e sz v r.length ((encs enc r).map TV.val) := by
    rintro p n c h1 rfl rfl hbl
    have hr : r = l := by
      have := stable_small lt l l.length h1
      have e1 : ln l = (l.length : Int) := rfl
      rw [e1, this] at h
      injection h with h
      exact h.symm
    subst hr
    have hA := sort_stable_func_t (less_none (A := keepAmb b (.slice p r.length c) T e sz r.length ((encs enc r).map TV.val)) (cap := #[.pointer (some ⟨b, 0, none⟩)]) hg) (swap_none (g := f) (cap := if swapperK r.length ie ke ≤ 2 then #[] else #[.slice p r.length c, typeHandle Tryz.prog e])) (fun _ _ => rfl) [] (r.length : Int) [] (stable_small _ _ _ h1)
    exact sort_SliceStable_m t e i ie hi hd hpk hie ke hke p r.length c f hf _ _ _ _ _ _ rfl hA w ⟨hb, how⟩ (fun k hk => by
      rcases List.mem_cons.1 hk with rfl | hk
      · exact hlt
      · exact hbl k hk)
  rcases how.2 with ⟨rfl, h0⟩ | ⟨g, cap, cur, rfl, h1, h2, h3, h4, h5, h6⟩
  · exact small none 0 0 (by omega) rfl h0.symm (by simp [blkOf, Value.ownBlock])
  · have hgl : g < w.heap.size := by
      rcases Nat.lt_or_ge g w.heap.size with q | q
      · exact q
      · rw [Array.getElem?_eq_none q] at h2; cases h2
    by_cases hn : l.length ≤ 1
    · exact small (some ⟨g, 0, none⟩) l.length cap hn rfl rfl (by simpa [blkOf, Value.ownBlock] using hgl)
    · obtain ⟨hk2, gS, hx⟩ := hsw2 (by omega)
      have hbg : b ≠ g := by simpa [blkOf, Value.ownBlock] using hbv
      have hA := sort_stable_func_t (hless l.length b g cap T hbg) (swapOk_row henc l.length gS hx hie hsz hagg (b := b) (g := g) (cap := cap) (T := T)) (fun _ _ => rfl) l (l.length : Int) r h
      have hrow : RowAt l.length b g cap e T sz enc w l := ⟨hbg, rfl, hb, ⟨cur, h2, h5, h6⟩, h3, h4⟩
      refine Calls.mono (sort_SliceStable_m t e i ie hi hd hpk hie ke hke (some ⟨g, 0, none⟩) l.length cap f hf _ _ _ _ _ _ (by rw [if_neg (by omega)]) hA w hrow (fun k hk => ?_)) ?_
      · have : k = b ∨ k = g := by simpa [rowAmb] using hk
        rcases this with rfl | rfl
        · exact hlt
        · exact hgl
      · rintro r' w' ⟨rfl, hbe, hI⟩
        obtain ⟨_, hrl, hbx, ⟨cur', c1, c2, c3⟩, c4, c5⟩ := (show RowAt l.length b g cap e T sz enc w' r from hI)
        refine ⟨rfl, hbe, by rw [← hrl]; exact hbx, by rw [List.length_map]; exact encs_len henc r, .inr ⟨g, cap, cur', by rw [← hrl], h1, c1, by rw [hrl]; exact h3, h4, c2, c3⟩⟩
end Go.TI
