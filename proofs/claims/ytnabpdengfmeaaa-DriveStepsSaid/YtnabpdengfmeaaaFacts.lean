/- Closed facts of this seat's program, each by itself. The head's words are laid as numbers (written by a program of mine, facts.py). -/
import Derived.Test.YtnabpdengfmeaaaRows
import Derived.JoinedOf
import Derived.KernelRfl
namespace Go.Proofs.Ytnabpdengfmeaaa
open Go

def headSigns : List Char := ([104, 97, 114, 110, 101, 115, 115, 32, 55, 50, 55, 48, 49, 56, 101, 56, 54, 97, 54, 50, 49, 54, 97, 100, 51, 100, 48, 57, 57, 57, 102, 49, 55, 102, 102, 50, 48, 97, 97, 49,
  51, 49, 101, 53, 52, 53, 101, 98, 97, 100, 48, 52, 56, 53, 99, 56, 51, 99, 100, 53, 48, 55, 50, 100, 54, 53, 99, 49, 48, 102, 52, 98, 32, 99, 117, 116, 32, 97, 116, 32,
  115, 101, 114, 118, 105, 116, 111, 114, 47, 115, 101, 114, 118, 105, 116, 111, 114, 108, 97, 119, 48, 50, 46, 83, 117, 109, 82, 105, 103, 104, 116, 32, 115, 101, 114, 118, 105, 116, 111, 114,
  47, 115, 101, 114, 118, 105, 116, 111, 114, 108, 97, 119, 48, 50, 46, 83, 117, 109, 80, 105, 101, 99, 101, 115, 32, 115, 101, 114, 118, 105, 116, 111, 114, 47, 115, 101, 114, 118, 105, 116,
  111, 114, 108, 97, 119, 48, 50, 46, 83, 117, 109, 66, 117, 114, 115, 116, 32, 115, 101, 114, 118, 105, 116, 111, 114, 47, 115, 101, 114, 118, 105, 116, 111, 114, 108, 97, 119, 48, 50, 46,
  83, 117, 109, 79, 118, 101, 114, 32, 115, 101, 114, 118, 105, 116, 111, 114, 47, 115, 101, 114, 118, 105, 116, 111, 114, 108, 97, 119, 48, 53, 46, 66, 111, 117, 110, 99, 101, 83, 116, 101,
  112, 115, 32, 115, 101, 114, 118, 105, 116, 111, 114, 47, 115, 101, 114, 118, 105, 116, 111, 114, 108, 97, 119, 48, 53, 46, 66, 111, 117, 110, 99, 101, 83, 101, 116, 116, 108, 101, 115, 32,
  115, 101, 114, 118, 105, 116, 111, 114, 47, 115, 101, 114, 118, 105, 116, 111, 114, 108, 97, 119, 48, 53, 46, 66, 111, 117, 110, 99, 101, 72, 111, 108, 100, 115, 32, 115, 101, 114, 118, 105,
  116, 111, 114, 47, 115, 101, 114, 118, 105, 116, 111, 114, 108, 97, 119, 48, 54, 46, 87, 111, 114, 100, 85, 112, 32, 115, 101, 114, 118, 105, 116, 111, 114, 47, 115, 101, 114, 118, 105, 116,
  111, 114, 108, 97, 119, 48, 51, 46, 70, 114, 97, 109, 101, 83, 112, 111, 105, 108, 116, 32, 115, 101, 114, 118, 105, 116, 111, 114, 47, 115, 101, 114, 118, 105, 116, 111, 114, 108, 97, 119,
  48, 51, 46, 70, 114, 97, 109, 101, 80, 117, 116, 115, 32, 115, 101, 114, 118, 105, 116, 111, 114, 47, 115, 101, 114, 118, 105, 116, 111, 114, 108, 97, 119, 48, 51, 46, 70, 114, 97, 109,
  101, 82, 101, 97, 100, 115, 32, 115, 101, 114, 118, 105, 116, 111, 114, 47, 115, 101, 114, 118, 105, 116, 111, 114, 108, 97, 119, 48, 51, 46, 70, 114, 97, 109, 101, 66, 97, 99, 107, 32,
  115, 101, 114, 118, 105, 116, 111, 114, 47, 115, 101, 114, 118, 105, 116, 111, 114, 108, 97, 119, 48, 54, 46, 87, 111, 114, 100, 82, 105, 103, 104, 116, 32, 115, 101, 114, 118, 105, 116, 111,
  114, 47, 115, 101, 114, 118, 105, 116, 111, 114, 108, 97, 119, 48, 54, 46, 87, 111, 114, 100, 66, 97, 99, 107, 32, 115, 101, 114, 118, 105, 116, 111, 114, 47, 115, 101, 114, 118, 105, 116,
  111, 114, 108, 97, 119, 48, 52, 46, 87, 97, 116, 99, 104, 82, 105, 103, 104, 116, 32, 115, 101, 114, 118, 105, 116, 111, 114, 47, 115, 101, 114, 118, 105, 116, 111, 114, 108, 97, 119, 48,
  52, 46, 87, 97, 116, 99, 104, 67, 111, 117, 110, 116, 115, 32, 115, 101, 114, 118, 105, 116, 111, 114, 47, 115, 101, 114, 118, 105, 116, 111, 114, 108, 97, 119, 48, 52, 46, 87, 97, 116,
  99, 104, 79, 108, 100, 32, 115, 101, 114, 118, 105, 116, 111, 114, 47, 115, 101, 114, 118, 105, 116, 111, 114, 108, 97, 119, 48, 55, 46, 68, 114, 105, 118, 101, 84, 97, 107, 101, 115, 32,
  115, 101, 114, 118, 105, 116, 111, 114, 47, 115, 101, 114, 118, 105, 116, 111, 114, 108, 97, 119, 48, 55, 46, 68, 114, 105, 118, 101, 83, 112, 111, 105, 108, 116, 32, 115, 101, 114, 118, 105,
  116, 111, 114, 47, 115, 101, 114, 118, 105, 116, 111, 114, 108, 97, 119, 48, 55, 46, 68, 114, 105, 118, 101, 84, 111, 108, 100, 32, 115, 101, 114, 118, 105, 116, 111, 114, 47, 115, 101, 114,
  118, 105, 116, 111, 114, 108, 97, 119, 48, 55, 46, 68, 114, 105, 118, 101, 83, 116, 101, 112, 115] : List Nat).map Char.ofNat
theorem head_is : Try.prog.initOrder.toList = headSigns := by
  have h : Try.prog.initOrder = String.ofList headSigns := by kernel_rfl
  rw [h, String.toList_ofList]
def headWords : List (List Char) := behindMainWord (wordsSigns headSigns)
theorem words_are : behindMainWord (wordsSigns Try.prog.initOrder.toList) = headWords := by rw [head_is]; rfl
theorem head_first : headWords.head? = some "cut".toList := by kernel_rfl
theorem strip_cut (tl : List (List Char)) : stripLifts liftWords ("cut".toList :: tl) = ([], "cut".toList :: tl) := by rfl
theorem head_cut : ∃ tl, behindMainWord (wordsSigns Try.prog.initOrder.toList) = "cut".toList :: tl := by
  rw [words_are]
  have h := head_first
  cases e : headWords with
  | nil => rw [e] at h; cases h
  | cons a tl => rw [e] at h; exact ⟨tl, by rw [Option.some.inj h]⟩
theorem lays_later : Try.prog.laysLater = false := by kernel_rfl
theorem bears_reflect : Try.prog.bearsReflect = false := by kernel_rfl
theorem door_fits : Try.prog.doorFits [] = true := by kernel_rfl
theorem head_lifts : Try.prog.headLifts = [] := by
  obtain ⟨tl, h⟩ := head_cut
  unfold Program.headLifts
  rw [h, strip_cut]; simp
theorem enter_of {P : Program} {tl : List (List Char)} (h : behindMainWord (wordsSigns P.initOrder.toList) = "cut".toList :: tl) (hs : stripLifts liftWords ("cut".toList :: tl) = ([], "cut".toList :: tl))
    (h1 : P.laysLater = false) (h2 : P.bearsReflect = false) (h3 : P.doorFits [] = true) : P.mayEnter = true := by
  unfold Program.mayEnter
  rw [h]
  simp only [hs, h1, h2, h3]
  simp
theorem may_enter : Try.prog.mayEnter = true := by
  obtain ⟨tl, h⟩ := head_cut
  exact enter_of h (strip_cut tl) lays_later bears_reflect door_fits
theorem lifts_final : Try.prog.liftsFinal = false := by
  obtain ⟨tl, h⟩ := head_cut
  unfold Program.liftsFinal
  rw [head_lifts, h]
  simp only [List.head?_cons]
  have e : (some "cut".toList == some "carried".toList) = false := by decide
  rw [e]; rfl
theorem make_of {P : Program} {tl : List (List Char)} (h : behindMainWord (wordsSigns P.initOrder.toList) = "cut".toList :: tl) : P.make = some .cut := by
  unfold Program.make
  rw [h]
  have e1 : ("cut".toList == "gc".toList) = false := by decide
  have e2 : ("cut".toList == "spec".toList) = false := by decide
  simp only [e1, e2]
  simp
theorem made : Try.prog.make = some .cut := by
  obtain ⟨tl, h⟩ := head_cut
  exact make_of h
end Go.Proofs.Ytnabpdengfmeaaa
