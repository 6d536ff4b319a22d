/-
  In a function that defers: a panic's end does not look at the other slots.
-/
import Derived.Test.YtcihgcdakooacaaDrawn
import Derived.Defers
namespace Go.Proofs.Ytcihgcdakooacaa
set_option linter.unusedVariables false
set_option linter.unusedSimpArgs false

theorem leaves_congr {P : Program} {fn : Func} {R : Ending → World → Prop} {tmps tmps' : Array Value} (h : ∀ w v, (results fn tmps).run P w = .ok v w → (results fn tmps').run P w = .ok v w) :
    ∀ (ds : List Deferred) (u : FrameMode) (w : World), Leaves P fn tmps R ds u w → Leaves P fn tmps' R ds u w
  | [], .returning, w, ⟨v, h1, h2⟩ => ⟨v, h w v h1, h2⟩
  | [], .panicking _, _, h1 => h1
  | [], .run, _, h1 => h1
  | d :: ds, u, w, ⟨hne, fv, cap, f, args, h1, h2, h3⟩ => ⟨hne, fv, cap, f, args, h1, h2, h3.mono (fun e u' w' hq => by
      cases e with
      | returned v => exact leaves_congr h ds _ _ hq
      | panicked c => exact leaves_congr h ds _ _ hq
      | outgrown => exact hq)⟩

theorem panicD_put {P : Program} {fn : Func} {R : Ending → World → Prop} {c : List PanicEntry} {dst : Option Tmp} {v : Value} {a : Act} {w : World} {t : Tmp} (hr : fn.results = #[.tmp t]) (hd : dst ≠ some t) (h : bodyPostD P fn R (.panic c) (a.put dst v) w) :
    bodyPostD P fn R (.panic c) a w := by
  cases dst with
  | none => exact h
  | some d =>
    have hne : d ≠ t := fun e => hd (by rw [e])
    have e : (a.tmps.setIfInBounds d v).getD t undef = a.tmps.getD t undef := by
      simp only [Array.getD_eq_getD_getElem?, Array.getElem?_setIfInBounds_ne hne]
    refine leaves_congr (tmps := a.tmps.setIfInBounds d v) (fun w v' h1 => ?_) _ _ _ h
    rw [results_tmp hr] at h1 ⊢
    rw [e] at h1
    exact h1
end Go.Proofs.Ytcihgcdakooacaa
