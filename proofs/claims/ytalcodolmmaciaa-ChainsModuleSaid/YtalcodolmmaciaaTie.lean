/-
  The program of this seat and the machine's code: every function fits.
-/
import Derived.Test.YtalcodolmmaciaaRows
import Derived.Test.YtalcodolmmaciaaLay
import Derived.Test.YtalcodolmmaciaaM01
import Derived.Test.YtalcodolmmaciaaM02
import Derived.Test.YtalcodolmmaciaaM03
import Derived.Test.YtalcodolmmaciaaM04
import Derived.Test.YtalcodolmmaciaaM05
import Derived.Test.YtalcodolmmaciaaM06
import Derived.Test.YtalcodolmmaciaaM07
import Derived.Test.YtalcodolmmaciaaM08
import Derived.Test.YtalcodolmmaciaaM09
import Derived.Test.YtalcodolmmaciaaM10
import Derived.KernelRfl
namespace Go.Proofs.Ytalcodolmmaciaa
open Tor
set_option maxRecDepth 100000
def iota : Nat → FuncId := fun g => ([5, 0, 6, 7, 17, 0, 19, 0, 20, 0, 8, 22, 0, 23, 11, 0, 12, 14, 0, 0, 0, 16, 9, 18, 21, 10, 13, 0, 0, 24, 34, 0, 28, 26, 27, 35, 0, 25, 29, 0, 0, 15, 32, 33, 0, 0, 0, 30, 31, 36, 42, 44, 43, 38, 41, 40, 39, 37, 0, 0, 0, 0, 0, 45, 46, 53, 54, 47, 48, 49, 50, 51, 52, 0, 0, 0, 0, 63, 62, 55, 56, 57, 58, 59, 61, 60, 0, 0, 0, 0, 0, 0, 0, 0, 0, 64, 65, 66, 67, 68, 69, 70, 71, 72, 73, 74, 75, 76, 0, 0, 0, 0, 77, 78, 79, 80, 81, 0, 0, 0, 82, 0, 0, 0, 0, 0, 3, 4, 9, 1, 2] : List Nat).getD g 0
def pures : List Nat := [0, 1, 2, 3, 4, 5, 6, 7, 8, 9, 10, 11, 12, 13, 14, 15, 16, 17, 18, 19, 20, 21, 22, 23, 24, 25, 26, 27, 28, 29, 30, 31, 32, 35, 36, 37, 39, 40, 41, 42, 43, 44, 45, 46, 47, 48, 49, 50, 53, 57, 58, 59, 60, 61, 62, 63, 64, 65, 67, 68, 69, 70, 71, 72, 73, 74, 75, 76, 77, 79, 80, 81, 82, 83, 84, 85, 86, 87, 88, 89, 90, 91, 92, 93, 94, 95, 96, 97, 98, 99, 100, 101, 102, 103, 104, 105, 106, 107, 108, 109, 110, 111, 112, 113, 114, 115, 116, 117, 118, 119, 120, 121, 122, 123, 124, 126, 127, 129, 130]
def pureF : Nat → Bool := fun g => pures.contains g
noncomputable def k0 : Ck := { P := Try.prog, ι := iota, slots := [0, 1, 2, 3, 4, 5, 6, 8, 10, 11, 12, 13, 14, 15, 16, 18, 19, 20, 22, 23, 24, 25, 26], cells := [], ntmps := 239, pureF := pureF }
theorem ok0 : funOk k0 Try.f5 a0 = true := by kernel_rfl
noncomputable def k2 : Ck := { P := Try.prog, ι := iota, slots := [0, 2, 3, 4, 13], cells := [], ntmps := 37, pureF := pureF }
theorem ok2 : funOk k2 Try.f6 a2 = true := by kernel_rfl
noncomputable def k3 : Ck := { P := Try.prog, ι := iota, slots := [0, 2, 3, 4, 9], cells := [], ntmps := 19, pureF := pureF }
theorem ok3 : funOk k3 Try.f7 a3 = true := by kernel_rfl
noncomputable def k4 : Ck := { P := Try.prog, ι := iota, slots := [0, 1, 4, 5, 7, 8], cells := [], ntmps := 18, pureF := pureF }
theorem ok4 : funOk k4 Try.f17 a4 = true := by kernel_rfl
noncomputable def k6 : Ck := { P := Try.prog, ι := iota, slots := [0, 1, 4, 5, 6, 8, 9, 10, 22, 25, 26, 27, 28, 33, 34, 35, 36], cells := [11, 13], ntmps := 55, pureF := pureF }
theorem ok6 : funOk k6 Try.f19 a6 = true := by kernel_rfl
noncomputable def k8 : Ck := { P := Try.prog, ι := iota, slots := [0, 1, 2, 6, 7, 9, 10, 11, 14, 16, 24, 28, 38, 39, 40, 41, 52, 53, 54, 55], cells := [13], ntmps := 66, pureF := pureF }
theorem ok8 : funOk k8 Try.f20 a8 = true := by kernel_rfl
noncomputable def k10 : Ck := { P := Try.prog, ι := iota, slots := [0, 1, 4, 5, 10, 14, 41], cells := [], ntmps := 42, pureF := pureF }
theorem ok10 : funOk k10 Try.f8 a10 = true := by kernel_rfl
noncomputable def k11 : Ck := { P := Try.prog, ι := iota, slots := [0, 1, 4, 5, 6], cells := [], ntmps := 20, pureF := pureF }
theorem ok11 : funOk k11 Try.f22 a11 = true := by kernel_rfl
noncomputable def k13 : Ck := { P := Try.prog, ι := iota, slots := [0, 1, 4, 5, 10, 14, 26], cells := [], ntmps := 27, pureF := pureF }
theorem ok13 : funOk k13 Try.f23 a13 = true := by kernel_rfl
noncomputable def k14 : Ck := { P := Try.prog, ι := iota, slots := [0, 3, 7], cells := [2], ntmps := 19, pureF := pureF }
theorem ok14 : funOk k14 Try.f11 a14 = true := by kernel_rfl
noncomputable def k16 : Ck := { P := Try.prog, ι := iota, slots := [0, 1, 2, 6, 7, 8, 13], cells := [5], ntmps := 32, pureF := pureF }
theorem ok16 : funOk k16 Try.f12 a16 = true := by kernel_rfl
noncomputable def k17 : Ck := { P := Try.prog, ι := iota, slots := [0, 2, 3, 7, 43], cells := [], ntmps := 44, pureF := pureF }
theorem ok17 : funOk k17 Try.f14 a17 = true := by kernel_rfl
noncomputable def k21 : Ck := { P := Try.prog, ι := iota, slots := [0, 1, 2, 7, 8, 14], cells := [6], ntmps := 34, pureF := pureF }
theorem ok21 : funOk k21 Try.f16 a21 = true := by kernel_rfl
noncomputable def k22 : Ck := { P := Try.prog, ι := iota, slots := [0, 2, 3, 7, 8, 9, 10], cells := [5], ntmps := 22, pureF := pureF }
theorem ok22 : funOk k22 Try.f9 a22 = true := by kernel_rfl
noncomputable def k23 : Ck := { P := Try.prog, ι := iota, slots := [0, 2], cells := [], ntmps := 6, pureF := pureF }
theorem ok23 : funOk k23 Try.f18 a23 = true := by kernel_rfl
noncomputable def k24 : Ck := { P := Try.prog, ι := iota, slots := [0, 1, 2, 6, 7, 8, 9, 10, 11, 19, 21, 22, 23, 24], cells := [], ntmps := 38, pureF := pureF }
theorem ok24 : funOk k24 Try.f21 a24 = true := by kernel_rfl
noncomputable def k25 : Ck := { P := Try.prog, ι := iota, slots := [0, 1, 2, 6, 7, 13, 14, 15, 16, 26, 27, 28, 29], cells := [5, 9, 11], ntmps := 43, pureF := pureF }
theorem ok25 : funOk k25 Try.f10 a25 = true := by kernel_rfl
noncomputable def k26 : Ck := { P := Try.prog, ι := iota, slots := [0, 2, 3, 5, 6, 7, 8, 36], cells := [4], ntmps := 38, pureF := pureF }
theorem ok26 : funOk k26 Try.f13 a26 = true := by kernel_rfl
noncomputable def k29 : Ck := { P := Try.prog, ι := iota, slots := [0, 1, 4, 5, 6, 7, 17, 31, 47, 58, 74], cells := [3, 8], ntmps := 80, pureF := pureF }
theorem ok29 : funOk k29 Try.f24 a29 = true := by kernel_rfl
noncomputable def k30 : Ck := { P := Try.prog, ι := iota, slots := [0, 1, 4, 5, 6, 7, 11, 12, 13, 14, 15, 16, 27, 35, 42], cells := [9, 10], ntmps := 45, pureF := pureF }
theorem ok30 : funOk k30 Try.f34 a30 = true := by kernel_rfl
noncomputable def k32 : Ck := { P := Try.prog, ι := iota, slots := [0, 1, 5, 6, 7, 8, 9, 10, 20, 21, 22, 23, 28, 29, 30, 31], cells := [2, 3, 4], ntmps := 77, pureF := pureF }
theorem ok32 : funOk k32 Try.f28 a32 = true := by kernel_rfl
noncomputable def k33 : Ck := { P := Try.prog, ι := iota, slots := [0, 1, 2, 13], cells := [5], ntmps := 19, pureF := pureF }
theorem ok33 : funOk k33 Try.f26 a33 = true := by kernel_rfl
noncomputable def k34 : Ck := { P := Try.prog, ι := iota, slots := [0, 2, 3, 5, 8, 9, 10, 11], cells := [], ntmps := 24, pureF := pureF }
theorem ok34 : funOk k34 Try.f27 a34 = true := by kernel_rfl
noncomputable def k35 : Ck := { P := Try.prog, ι := iota, slots := [0, 1, 4, 5, 8, 9, 10, 11, 17], cells := [7], ntmps := 25, pureF := pureF }
theorem ok35 : funOk k35 Try.f35 a35 = true := by kernel_rfl
noncomputable def k37 : Ck := { P := Try.prog, ι := iota, slots := [0, 1, 4], cells := [2, 3], ntmps := 26, pureF := pureF }
theorem ok37 : funOk k37 Try.f25 a37 = true := by kernel_rfl
noncomputable def k38 : Ck := { P := Try.prog, ι := iota, slots := [0, 1, 5, 17], cells := [4], ntmps := 31, pureF := pureF }
theorem ok38 : funOk k38 Try.f29 a38 = true := by kernel_rfl
noncomputable def k41 : Ck := { P := Try.prog, ι := iota, slots := [0, 1, 5, 6, 7, 8, 22, 33, 49], cells := [2, 3, 4], ntmps := 81, pureF := pureF }
theorem ok41 : funOk k41 Try.f15 a41 = true := by kernel_rfl
noncomputable def k42 : Ck := { P := Try.prog, ι := iota, slots := [0, 2, 6], cells := [1], ntmps := 19, pureF := pureF }
theorem ok42 : funOk k42 Try.f32 a42 = true := by kernel_rfl
noncomputable def k43 : Ck := { P := Try.prog, ι := iota, slots := [0, 2, 6, 8], cells := [1], ntmps := 9, pureF := pureF }
theorem ok43 : funOk k43 Try.f33 a43 = true := by kernel_rfl
noncomputable def k47 : Ck := { P := Try.prog, ι := iota, slots := [0, 2, 3], cells := [1], ntmps := 27, pureF := pureF }
theorem ok47 : funOk k47 Try.f30 a47 = true := by kernel_rfl
noncomputable def k48 : Ck := { P := Try.prog, ι := iota, slots := [0, 2, 3, 8], cells := [1], ntmps := 11, pureF := pureF }
theorem ok48 : funOk k48 Try.f31 a48 = true := by kernel_rfl
noncomputable def k49 : Ck := { P := Try.prog, ι := iota, slots := [0, 1, 9, 22], cells := [2, 3, 4], ntmps := 39, pureF := pureF }
theorem ok49 : funOk k49 Try.f36 a49 = true := by kernel_rfl
noncomputable def k50 : Ck := { P := Try.prog, ι := iota, slots := [0, 1, 5, 6, 7, 15], cells := [4], ntmps := 21, pureF := pureF }
theorem ok50 : funOk k50 Try.f42 a50 = true := by kernel_rfl
noncomputable def k51 : Ck := { P := Try.prog, ι := iota, slots := [0, 1, 3], cells := [2], ntmps := 8, pureF := pureF }
theorem ok51 : funOk k51 Try.f44 a51 = true := by kernel_rfl
noncomputable def k52 : Ck := { P := Try.prog, ι := iota, slots := [0, 1, 4], cells := [], ntmps := 9, pureF := pureF }
theorem ok52 : funOk k52 Try.f43 a52 = true := by kernel_rfl
noncomputable def k53 : Ck := { P := Try.prog, ι := iota, slots := [0, 1, 5, 19], cells := [2, 3, 4], ntmps := 42, pureF := pureF }
theorem ok53 : funOk k53 Try.f38 a53 = true := by kernel_rfl
noncomputable def k54 : Ck := { P := Try.prog, ι := iota, slots := [0, 1, 5, 9, 15], cells := [4], ntmps := 28, pureF := pureF }
theorem ok54 : funOk k54 Try.f41 a54 = true := by kernel_rfl
noncomputable def k55 : Ck := { P := Try.prog, ι := iota, slots := [0, 1, 2], cells := [], ntmps := 4, pureF := pureF }
theorem ok55 : funOk k55 Try.f40 a55 = true := by kernel_rfl
noncomputable def k57 : Ck := { P := Try.prog, ι := iota, slots := [0, 1, 4, 5, 10, 20, 31], cells := [], ntmps := 41, pureF := pureF }
theorem ok57 : funOk k57 Try.f37 a57 = true := by kernel_rfl
noncomputable def k63 : Ck := { P := Try.prog, ι := iota, slots := [0, 1, 4, 5, 6, 7, 22, 28, 39], cells := [], ntmps := 55, pureF := pureF }
theorem ok63 : funOk k63 Try.f45 a63 = true := by kernel_rfl
noncomputable def k64 : Ck := { P := Try.prog, ι := iota, slots := [0, 1, 4, 5, 6, 7, 8, 13, 26, 35], cells := [], ntmps := 44, pureF := pureF }
theorem ok64 : funOk k64 Try.f46 a64 = true := by kernel_rfl
noncomputable def k65 : Ck := { P := Try.prog, ι := iota, slots := [0, 1, 4, 5], cells := [], ntmps := 11, pureF := pureF }
theorem ok65 : funOk k65 Try.f53 a65 = true := by kernel_rfl
noncomputable def k66 : Ck := { P := Try.prog, ι := iota, slots := [0, 1, 4, 5, 7, 8, 9, 16], cells := [], ntmps := 19, pureF := pureF }
theorem ok66 : funOk k66 Try.f54 a66 = true := by kernel_rfl
noncomputable def k67 : Ck := { P := Try.prog, ι := iota, slots := [0, 1, 4, 5, 6, 7, 8, 13, 24, 25, 26, 31], cells := [], ntmps := 56, pureF := pureF }
theorem ok67 : funOk k67 Try.f47 a67 = true := by kernel_rfl
noncomputable def k68 : Ck := { P := Try.prog, ι := iota, slots := [0, 1, 4, 5, 6, 7, 14, 20, 33], cells := [], ntmps := 35, pureF := pureF }
theorem ok68 : funOk k68 Try.f48 a68 = true := by kernel_rfl
noncomputable def k69 : Ck := { P := Try.prog, ι := iota, slots := [0, 1, 4, 5, 6, 7, 8, 13, 14, 15, 20], cells := [], ntmps := 40, pureF := pureF }
theorem ok69 : funOk k69 Try.f49 a69 = true := by kernel_rfl
noncomputable def k77 : Ck := { P := Try.prog, ι := iota, slots := [0, 1, 4], cells := [2], ntmps := 9, pureF := pureF }
theorem ok77 : funOk k77 Try.f63 a77 = true := by kernel_rfl
noncomputable def k78 : Ck := { P := Try.prog, ι := iota, slots := [0, 1, 2, 6, 7, 8, 9, 10, 11, 17, 31], cells := [], ntmps := 49, pureF := pureF }
theorem ok78 : funOk k78 Try.f62 a78 = true := by kernel_rfl
noncomputable def k79 : Ck := { P := Try.prog, ι := iota, slots := [0, 1, 2, 6, 7, 8], cells := [], ntmps := 22, pureF := pureF }
theorem ok79 : funOk k79 Try.f55 a79 = true := by kernel_rfl
noncomputable def k80 : Ck := { P := Try.prog, ι := iota, slots := [0, 1, 4, 5, 6, 11, 12, 13, 16, 19], cells := [], ntmps := 20, pureF := pureF }
theorem ok80 : funOk k80 Try.f56 a80 = true := by kernel_rfl
noncomputable def k81 : Ck := { P := Try.prog, ι := iota, slots := [0, 1, 4, 5, 6, 11, 12, 13, 16, 19], cells := [], ntmps := 20, pureF := pureF }
theorem ok81 : funOk k81 Try.f57 a81 = true := by kernel_rfl
noncomputable def k82 : Ck := { P := Try.prog, ι := iota, slots := [0, 1, 2, 6, 7], cells := [], ntmps := 25, pureF := pureF }
theorem ok82 : funOk k82 Try.f58 a82 = true := by kernel_rfl
noncomputable def k95 : Ck := { P := Try.prog, ι := iota, slots := [0, 2], cells := [], ntmps := 6, pureF := pureF }
theorem ok95 : funOk k95 Try.f64 a95 = true := by kernel_rfl
noncomputable def k96 : Ck := { P := Try.prog, ι := iota, slots := [0, 2], cells := [], ntmps := 6, pureF := pureF }
theorem ok96 : funOk k96 Try.f65 a96 = true := by kernel_rfl
noncomputable def k126 : Ck := { P := Try.prog, ι := iota, slots := [0, 1, 2, 6, 7, 8, 9, 10, 11], cells := [], ntmps := 52, pureF := pureF }
theorem ok126 : funOk k126 Try.f3 a126 = true := by kernel_rfl
noncomputable def k127 : Ck := { P := Try.prog, ι := iota, slots := [0, 1, 2, 5, 6, 7, 11, 12, 13, 14, 15, 16, 17, 18, 19, 20, 43, 67, 82], cells := [8, 9, 10], ntmps := 132, pureF := pureF }
theorem ok127 : funOk k127 Try.f4 a127 = true := by kernel_rfl
noncomputable def k128 : Ck := { P := Try.prog, ι := iota, slots := [0, 2, 3, 7, 8, 9, 10], cells := [5], ntmps := 22, pureF := pureF }
theorem ok128 : funOk k128 Try.f9 a128 = true := by kernel_rfl
theorem funs : ∀ g f, GP g = some f → ∃ k fn, k.P = Try.prog ∧ k.ι = iota ∧ k.pureF = pureF ∧ Try.prog.funcs[iota g]? = some fn ∧ funOk k fn f = true := by
  intro g f h
  unfold GP at h
  split at h
  · cases h; exact ⟨k0, Try.f5, rfl, rfl, rfl, Try.func5, ok0⟩
  · cases h; exact ⟨k2, Try.f6, rfl, rfl, rfl, Try.func6, ok2⟩
  · cases h; exact ⟨k3, Try.f7, rfl, rfl, rfl, Try.func7, ok3⟩
  · cases h; exact ⟨k4, Try.f17, rfl, rfl, rfl, Try.func17, ok4⟩
  · cases h; exact ⟨k6, Try.f19, rfl, rfl, rfl, Try.func19, ok6⟩
  · cases h; exact ⟨k8, Try.f20, rfl, rfl, rfl, Try.func20, ok8⟩
  · cases h; exact ⟨k10, Try.f8, rfl, rfl, rfl, Try.func8, ok10⟩
  · cases h; exact ⟨k11, Try.f22, rfl, rfl, rfl, Try.func22, ok11⟩
  · cases h; exact ⟨k13, Try.f23, rfl, rfl, rfl, Try.func23, ok13⟩
  · cases h; exact ⟨k14, Try.f11, rfl, rfl, rfl, Try.func11, ok14⟩
  · cases h; exact ⟨k16, Try.f12, rfl, rfl, rfl, Try.func12, ok16⟩
  · cases h; exact ⟨k17, Try.f14, rfl, rfl, rfl, Try.func14, ok17⟩
  · cases h; exact ⟨k21, Try.f16, rfl, rfl, rfl, Try.func16, ok21⟩
  · cases h; exact ⟨k22, Try.f9, rfl, rfl, rfl, Try.func9, ok22⟩
  · cases h; exact ⟨k23, Try.f18, rfl, rfl, rfl, Try.func18, ok23⟩
  · cases h; exact ⟨k24, Try.f21, rfl, rfl, rfl, Try.func21, ok24⟩
  · cases h; exact ⟨k25, Try.f10, rfl, rfl, rfl, Try.func10, ok25⟩
  · cases h; exact ⟨k26, Try.f13, rfl, rfl, rfl, Try.func13, ok26⟩
  · cases h; exact ⟨k29, Try.f24, rfl, rfl, rfl, Try.func24, ok29⟩
  · cases h; exact ⟨k30, Try.f34, rfl, rfl, rfl, Try.func34, ok30⟩
  · cases h; exact ⟨k32, Try.f28, rfl, rfl, rfl, Try.func28, ok32⟩
  · cases h; exact ⟨k33, Try.f26, rfl, rfl, rfl, Try.func26, ok33⟩
  · cases h; exact ⟨k34, Try.f27, rfl, rfl, rfl, Try.func27, ok34⟩
  · cases h; exact ⟨k35, Try.f35, rfl, rfl, rfl, Try.func35, ok35⟩
  · cases h; exact ⟨k37, Try.f25, rfl, rfl, rfl, Try.func25, ok37⟩
  · cases h; exact ⟨k38, Try.f29, rfl, rfl, rfl, Try.func29, ok38⟩
  · cases h; exact ⟨k41, Try.f15, rfl, rfl, rfl, Try.func15, ok41⟩
  · cases h; exact ⟨k42, Try.f32, rfl, rfl, rfl, Try.func32, ok42⟩
  · cases h; exact ⟨k43, Try.f33, rfl, rfl, rfl, Try.func33, ok43⟩
  · cases h; exact ⟨k47, Try.f30, rfl, rfl, rfl, Try.func30, ok47⟩
  · cases h; exact ⟨k48, Try.f31, rfl, rfl, rfl, Try.func31, ok48⟩
  · cases h; exact ⟨k49, Try.f36, rfl, rfl, rfl, Try.func36, ok49⟩
  · cases h; exact ⟨k50, Try.f42, rfl, rfl, rfl, Try.func42, ok50⟩
  · cases h; exact ⟨k51, Try.f44, rfl, rfl, rfl, Try.func44, ok51⟩
  · cases h; exact ⟨k52, Try.f43, rfl, rfl, rfl, Try.func43, ok52⟩
  · cases h; exact ⟨k53, Try.f38, rfl, rfl, rfl, Try.func38, ok53⟩
  · cases h; exact ⟨k54, Try.f41, rfl, rfl, rfl, Try.func41, ok54⟩
  · cases h; exact ⟨k55, Try.f40, rfl, rfl, rfl, Try.func40, ok55⟩
  · cases h; exact ⟨k57, Try.f37, rfl, rfl, rfl, Try.func37, ok57⟩
  · cases h; exact ⟨k63, Try.f45, rfl, rfl, rfl, Try.func45, ok63⟩
  · cases h; exact ⟨k64, Try.f46, rfl, rfl, rfl, Try.func46, ok64⟩
  · cases h; exact ⟨k65, Try.f53, rfl, rfl, rfl, Try.func53, ok65⟩
  · cases h; exact ⟨k66, Try.f54, rfl, rfl, rfl, Try.func54, ok66⟩
  · cases h; exact ⟨k67, Try.f47, rfl, rfl, rfl, Try.func47, ok67⟩
  · cases h; exact ⟨k68, Try.f48, rfl, rfl, rfl, Try.func48, ok68⟩
  · cases h; exact ⟨k69, Try.f49, rfl, rfl, rfl, Try.func49, ok69⟩
  · cases h; exact ⟨k77, Try.f63, rfl, rfl, rfl, Try.func63, ok77⟩
  · cases h; exact ⟨k78, Try.f62, rfl, rfl, rfl, Try.func62, ok78⟩
  · cases h; exact ⟨k79, Try.f55, rfl, rfl, rfl, Try.func55, ok79⟩
  · cases h; exact ⟨k80, Try.f56, rfl, rfl, rfl, Try.func56, ok80⟩
  · cases h; exact ⟨k81, Try.f57, rfl, rfl, rfl, Try.func57, ok81⟩
  · cases h; exact ⟨k82, Try.f58, rfl, rfl, rfl, Try.func58, ok82⟩
  · cases h; exact ⟨k95, Try.f64, rfl, rfl, rfl, Try.func64, ok95⟩
  · cases h; exact ⟨k96, Try.f65, rfl, rfl, rfl, Try.func65, ok96⟩
  · cases h; exact ⟨k126, Try.f3, rfl, rfl, rfl, Try.func3, ok126⟩
  · cases h; exact ⟨k127, Try.f4, rfl, rfl, rfl, Try.func4, ok127⟩
  · cases h; exact ⟨k128, Try.f9, rfl, rfl, rfl, Try.func9, ok128⟩
  · cases h
theorem pureModes : (pures.all fun g => match GP g with | some f => (match f.mode with | .iso => true | _ => false) | none => true) = true := by kernel_rfl
theorem pureMode (g : Nat) (hg : pureF g = true) (f : AFun) (h : GP g = some f) : f.mode = .iso := by
  have := (List.all_eq_true.1 pureModes) g (by simpa [pureF] using hg)
  rw [h] at this
  simp only at this
  split at this <;> simp_all
theorem no56 (g : Nat) (hg : pureF g = true) : g ≠ 56 := by
  rintro rfl
  have : pureF 56 = false := by kernel_rfl
  rw [this] at hg; cases hg
theorem tied : Tied Try.prog iota pureF E1 GP where
  funs := funs
  pureG := fun g hg => ⟨pureMode g hg, fun args H H2 _ => if_neg (no56 g hg)⟩
  pureE := fun g hg args H r H' b h => by
    rw [show E1 g args H = none from if_neg (no56 g hg)] at h; cases h
  keepE := E1_keeps
  soundE := E1_sound (ρ := Go.Proofs.Try.keysA_ren) (ρ' := Go.Proofs.Try.sortedA_ren) { Go.Proofs.Try.keysA with } Go.Proofs.Try.sortedA Go.Proofs.Try.sortsA (enters_of Try.func39 (by kernel_rfl) rfl) (enters_of Try.func51 (by kernel_rfl) rfl) (enters_of Try.func52 (by kernel_rfl) rfl) rfl rfl
theorem own : ownKnob Try.prog.godebug = none := by kernel_rfl
theorem laidOut : laidOutB Try.prog = true := by kernel_rfl
end Go.Proofs.Ytalcodolmmaciaa
