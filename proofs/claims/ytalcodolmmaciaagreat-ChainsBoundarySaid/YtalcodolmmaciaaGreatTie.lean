/-
  The program of this seat and the machine's code: every function fits.
-/
import Derived.Test.YtalcodolmmaciaaGreatRows
import Derived.Test.YtalcodolmmaciaaGreatLay
import Derived.Test.YtalcodolmmaciaaGreatM01
import Derived.Test.YtalcodolmmaciaaGreatM02
import Derived.Test.YtalcodolmmaciaaGreatM03
import Derived.Test.YtalcodolmmaciaaGreatM04
import Derived.Test.YtalcodolmmaciaaGreatM05
import Derived.Test.YtalcodolmmaciaaGreatM06
import Derived.Test.YtalcodolmmaciaaGreatM07
import Derived.Test.YtalcodolmmaciaaGreatM08
import Derived.Test.YtalcodolmmaciaaGreatM09
import Derived.Test.YtalcodolmmaciaaGreatM10
import Derived.Test.YtalcodolmmaciaaGreatM11
import Derived.Test.YtalcodolmmaciaaGreatM12
import Derived.Test.YtalcodolmmaciaaGreatM13
import Derived.KernelRfl
namespace Go.Proofs.YtalcodolmmaciaaGreat
open Tor
set_option maxRecDepth 100000
def iota : Nat → FuncId := fun g => ([6, 7, 9, 8, 10, 11, 12, 13, 14, 15, 16, 17, 18, 19, 20, 21, 22, 23, 25, 26, 24, 31, 32, 33, 29, 34, 35, 36, 37, 38, 39, 40, 42, 41, 43, 44, 27, 45, 46, 28, 47, 48, 49, 50, 51, 52, 53, 54, 55, 57, 58, 60, 59, 61, 62, 64, 63, 65, 30, 67, 66, 68, 69, 70, 71, 72, 73, 74, 75, 76, 77, 78, 79, 80, 81, 82, 83, 85, 84, 87, 86, 88, 89, 90, 92, 91, 93, 94, 96, 95, 97, 98, 99, 100, 101, 102, 103, 104, 105, 106, 107, 108, 109, 110, 111, 112, 113, 114, 115, 116, 117, 118, 119, 120, 121, 122, 123, 124, 125, 126, 127, 56, 4, 3, 5, 0, 0, 0, 32, 1, 2] : List Nat).getD g 0
def pures : List Nat := [0, 1, 2, 3, 4, 5, 6, 7, 8, 9, 10, 11, 12, 13, 14, 15, 16, 17, 18, 19, 20, 21, 22, 23, 24, 25, 26, 27, 28, 29, 30, 31, 32, 35, 36, 37, 39, 40, 41, 42, 43, 44, 45, 46, 47, 48, 49, 50, 53, 57, 58, 59, 60, 62, 63, 64, 65, 67, 68, 69, 70, 71, 72, 73, 74, 75, 76, 77, 79, 80, 81, 82, 83, 84, 85, 87, 88, 92, 93, 94, 95, 96, 97, 98, 99, 100, 101, 102, 103, 104, 105, 106, 107, 110, 111, 112, 113, 114, 115, 116, 118, 119, 120, 121, 122, 123, 124, 126, 127, 129, 130]
def pureF : Nat → Bool := fun g => pures.contains g
noncomputable def k0 : Ck := { P := Tryz.prog, ι := iota, slots := [0, 1, 2, 3, 4, 5, 6, 8, 10, 11, 12, 13, 14, 15, 16, 18, 19, 20, 22, 23, 24, 25, 26], cells := [], ntmps := 239, pureF := pureF }
theorem ok0 : funOk k0 Tryz.f6 a0 = true := by kernel_rfl
noncomputable def k1 : Ck := { P := Tryz.prog, ι := iota, slots := [0, 2, 3, 4, 16], cells := [1], ntmps := 27, pureF := pureF }
theorem ok1 : funOk k1 Tryz.f7 a1 = true := by kernel_rfl
noncomputable def k2 : Ck := { P := Tryz.prog, ι := iota, slots := [0, 2, 3, 4, 13], cells := [], ntmps := 37, pureF := pureF }
theorem ok2 : funOk k2 Tryz.f9 a2 = true := by kernel_rfl
noncomputable def k3 : Ck := { P := Tryz.prog, ι := iota, slots := [0, 2, 3, 4, 9], cells := [], ntmps := 19, pureF := pureF }
theorem ok3 : funOk k3 Tryz.f8 a3 = true := by kernel_rfl
noncomputable def k4 : Ck := { P := Tryz.prog, ι := iota, slots := [0, 1, 4, 5, 7, 8], cells := [], ntmps := 18, pureF := pureF }
theorem ok4 : funOk k4 Tryz.f10 a4 = true := by kernel_rfl
noncomputable def k5 : Ck := { P := Tryz.prog, ι := iota, slots := [0, 1, 4, 5, 6, 7, 8, 10, 14, 28, 36, 39], cells := [9], ntmps := 41, pureF := pureF }
theorem ok5 : funOk k5 Tryz.f11 a5 = true := by kernel_rfl
noncomputable def k6 : Ck := { P := Tryz.prog, ι := iota, slots := [0, 1, 4, 5, 6, 8, 9, 10, 22, 25, 26, 27, 28, 33, 34, 35, 36], cells := [11, 13], ntmps := 55, pureF := pureF }
theorem ok6 : funOk k6 Tryz.f12 a6 = true := by kernel_rfl
noncomputable def k7 : Ck := { P := Tryz.prog, ι := iota, slots := [0, 1, 4, 5, 7, 8, 9, 19, 25], cells := [10], ntmps := 48, pureF := pureF }
theorem ok7 : funOk k7 Tryz.f13 a7 = true := by kernel_rfl
noncomputable def k8 : Ck := { P := Tryz.prog, ι := iota, slots := [0, 1, 2, 6, 7, 9, 10, 11, 14, 16, 24, 28, 38, 39, 40, 41, 52, 53, 54, 55], cells := [13], ntmps := 66, pureF := pureF }
theorem ok8 : funOk k8 Tryz.f14 a8 = true := by kernel_rfl
noncomputable def k9 : Ck := { P := Tryz.prog, ι := iota, slots := [0, 1, 2, 6, 7, 8, 9, 10, 11, 12, 14, 22, 31, 39, 46, 58], cells := [13], ntmps := 69, pureF := pureF }
theorem ok9 : funOk k9 Tryz.f15 a9 = true := by kernel_rfl
noncomputable def k10 : Ck := { P := Tryz.prog, ι := iota, slots := [0, 1, 4, 5, 10, 14, 41], cells := [], ntmps := 42, pureF := pureF }
theorem ok10 : funOk k10 Tryz.f16 a10 = true := by kernel_rfl
noncomputable def k11 : Ck := { P := Tryz.prog, ι := iota, slots := [0, 1, 4, 5, 6], cells := [], ntmps := 20, pureF := pureF }
theorem ok11 : funOk k11 Tryz.f17 a11 = true := by kernel_rfl
noncomputable def k12 : Ck := { P := Tryz.prog, ι := iota, slots := [0, 1, 4, 5, 6], cells := [], ntmps := 20, pureF := pureF }
theorem ok12 : funOk k12 Tryz.f18 a12 = true := by kernel_rfl
noncomputable def k13 : Ck := { P := Tryz.prog, ι := iota, slots := [0, 1, 4, 5, 10, 14, 26], cells := [], ntmps := 27, pureF := pureF }
theorem ok13 : funOk k13 Tryz.f19 a13 = true := by kernel_rfl
noncomputable def k14 : Ck := { P := Tryz.prog, ι := iota, slots := [0, 3, 7], cells := [2], ntmps := 19, pureF := pureF }
theorem ok14 : funOk k14 Tryz.f20 a14 = true := by kernel_rfl
noncomputable def k15 : Ck := { P := Tryz.prog, ι := iota, slots := [0, 1, 2, 6], cells := [], ntmps := 16, pureF := pureF }
theorem ok15 : funOk k15 Tryz.f21 a15 = true := by kernel_rfl
noncomputable def k16 : Ck := { P := Tryz.prog, ι := iota, slots := [0, 1, 2, 6, 7, 8, 13], cells := [5], ntmps := 32, pureF := pureF }
theorem ok16 : funOk k16 Tryz.f22 a16 = true := by kernel_rfl
noncomputable def k17 : Ck := { P := Tryz.prog, ι := iota, slots := [0, 2, 3, 7, 43], cells := [], ntmps := 44, pureF := pureF }
theorem ok17 : funOk k17 Tryz.f23 a17 = true := by kernel_rfl
noncomputable def k18 : Ck := { P := Tryz.prog, ι := iota, slots := [0, 1, 2, 6, 7], cells := [], ntmps := 17, pureF := pureF }
theorem ok18 : funOk k18 Tryz.f25 a18 = true := by kernel_rfl
noncomputable def k19 : Ck := { P := Tryz.prog, ι := iota, slots := [0, 1, 5, 6, 7, 8, 26], cells := [4, 9], ntmps := 48, pureF := pureF }
theorem ok19 : funOk k19 Tryz.f26 a19 = true := by kernel_rfl
noncomputable def k20 : Ck := { P := Tryz.prog, ι := iota, slots := [0, 1, 4, 5], cells := [3], ntmps := 14, pureF := pureF }
theorem ok20 : funOk k20 Tryz.f24 a20 = true := by kernel_rfl
noncomputable def k21 : Ck := { P := Tryz.prog, ι := iota, slots := [0, 1, 2, 7, 8, 14], cells := [6], ntmps := 34, pureF := pureF }
theorem ok21 : funOk k21 Tryz.f31 a21 = true := by kernel_rfl
noncomputable def k22 : Ck := { P := Tryz.prog, ι := iota, slots := [0, 2, 3, 7, 8, 9, 10], cells := [5], ntmps := 22, pureF := pureF }
theorem ok22 : funOk k22 Tryz.f32 a22 = true := by kernel_rfl
noncomputable def k23 : Ck := { P := Tryz.prog, ι := iota, slots := [0, 2], cells := [], ntmps := 6, pureF := pureF }
theorem ok23 : funOk k23 Tryz.f33 a23 = true := by kernel_rfl
noncomputable def k24 : Ck := { P := Tryz.prog, ι := iota, slots := [0, 1, 2, 6, 7, 8, 9, 10, 11, 19, 21, 22, 23, 24], cells := [], ntmps := 38, pureF := pureF }
theorem ok24 : funOk k24 Tryz.f29 a24 = true := by kernel_rfl
noncomputable def k25 : Ck := { P := Tryz.prog, ι := iota, slots := [0, 1, 2, 6, 7, 13, 14, 15, 16, 26, 27, 28, 29], cells := [5, 9, 11], ntmps := 43, pureF := pureF }
theorem ok25 : funOk k25 Tryz.f34 a25 = true := by kernel_rfl
noncomputable def k26 : Ck := { P := Tryz.prog, ι := iota, slots := [0, 2, 3, 5, 6, 7, 8, 36], cells := [4], ntmps := 38, pureF := pureF }
theorem ok26 : funOk k26 Tryz.f35 a26 = true := by kernel_rfl
noncomputable def k27 : Ck := { P := Tryz.prog, ι := iota, slots := [0, 2, 5, 19, 20, 24, 29, 36, 41, 44, 51, 56, 63, 70, 78, 86, 95], cells := [3, 4], ntmps := 104, pureF := pureF }
theorem ok27 : funOk k27 Tryz.f36 a27 = true := by kernel_rfl
noncomputable def k28 : Ck := { P := Tryz.prog, ι := iota, slots := [0, 1, 3, 4, 5, 6, 7, 8, 9, 10, 28, 46], cells := [], ntmps := 71, pureF := pureF }
theorem ok28 : funOk k28 Tryz.f37 a28 = true := by kernel_rfl
noncomputable def k29 : Ck := { P := Tryz.prog, ι := iota, slots := [0, 1, 4, 5, 6, 7, 17, 31, 47, 58, 74], cells := [3, 8], ntmps := 80, pureF := pureF }
theorem ok29 : funOk k29 Tryz.f38 a29 = true := by kernel_rfl
noncomputable def k30 : Ck := { P := Tryz.prog, ι := iota, slots := [0, 1, 4, 5, 6, 7, 11, 12, 13, 14, 15, 16, 27, 35, 42], cells := [9, 10], ntmps := 45, pureF := pureF }
theorem ok30 : funOk k30 Tryz.f39 a30 = true := by kernel_rfl
noncomputable def k31 : Ck := { P := Tryz.prog, ι := iota, slots := [0, 1, 5, 6, 10, 19], cells := [4], ntmps := 25, pureF := pureF }
theorem ok31 : funOk k31 Tryz.f40 a31 = true := by kernel_rfl
noncomputable def k32 : Ck := { P := Tryz.prog, ι := iota, slots := [0, 1, 5, 6, 7, 8, 9, 10, 20, 21, 22, 23, 28, 29, 30, 31], cells := [2, 3, 4], ntmps := 77, pureF := pureF }
theorem ok32 : funOk k32 Tryz.f42 a32 = true := by kernel_rfl
noncomputable def k33 : Ck := { P := Tryz.prog, ι := iota, slots := [0, 1, 2, 13], cells := [5], ntmps := 19, pureF := pureF }
theorem ok33 : funOk k33 Tryz.f41 a33 = true := by kernel_rfl
noncomputable def k34 : Ck := { P := Tryz.prog, ι := iota, slots := [0, 2, 3, 5, 8, 9, 10, 11], cells := [], ntmps := 24, pureF := pureF }
theorem ok34 : funOk k34 Tryz.f43 a34 = true := by kernel_rfl
noncomputable def k35 : Ck := { P := Tryz.prog, ι := iota, slots := [0, 1, 4, 5, 8, 9, 10, 11, 17], cells := [7], ntmps := 25, pureF := pureF }
theorem ok35 : funOk k35 Tryz.f44 a35 = true := by kernel_rfl
noncomputable def k36 : Ck := { P := Tryz.prog, ι := iota, slots := [0, 1, 4, 5, 6, 11, 20], cells := [], ntmps := 30, pureF := pureF }
theorem ok36 : funOk k36 Tryz.f27 a36 = true := by kernel_rfl
noncomputable def k37 : Ck := { P := Tryz.prog, ι := iota, slots := [0, 1, 4], cells := [2, 3], ntmps := 26, pureF := pureF }
theorem ok37 : funOk k37 Tryz.f45 a37 = true := by kernel_rfl
noncomputable def k38 : Ck := { P := Tryz.prog, ι := iota, slots := [0, 1, 5, 17], cells := [4], ntmps := 31, pureF := pureF }
theorem ok38 : funOk k38 Tryz.f46 a38 = true := by kernel_rfl
noncomputable def k39 : Ck := { P := Tryz.prog, ι := iota, slots := [0, 1, 4], cells := [], ntmps := 11, pureF := pureF }
theorem ok39 : funOk k39 Tryz.f28 a39 = true := by kernel_rfl
noncomputable def k40 : Ck := { P := Tryz.prog, ι := iota, slots := [0, 1, 2, 6, 7], cells := [], ntmps := 17, pureF := pureF }
theorem ok40 : funOk k40 Tryz.f47 a40 = true := by kernel_rfl
noncomputable def k41 : Ck := { P := Tryz.prog, ι := iota, slots := [0, 1, 5, 6, 7, 8, 22, 33, 49], cells := [2, 3, 4], ntmps := 81, pureF := pureF }
theorem ok41 : funOk k41 Tryz.f48 a41 = true := by kernel_rfl
noncomputable def k42 : Ck := { P := Tryz.prog, ι := iota, slots := [0, 2, 6], cells := [1], ntmps := 19, pureF := pureF }
theorem ok42 : funOk k42 Tryz.f49 a42 = true := by kernel_rfl
noncomputable def k43 : Ck := { P := Tryz.prog, ι := iota, slots := [0, 2, 6, 8], cells := [1], ntmps := 9, pureF := pureF }
theorem ok43 : funOk k43 Tryz.f50 a43 = true := by kernel_rfl
noncomputable def k44 : Ck := { P := Tryz.prog, ι := iota, slots := [0, 1, 4, 5, 10], cells := [3], ntmps := 18, pureF := pureF }
theorem ok44 : funOk k44 Tryz.f51 a44 = true := by kernel_rfl
noncomputable def k45 : Ck := { P := Tryz.prog, ι := iota, slots := [0, 1, 4, 5, 6, 7, 14, 20, 32], cells := [], ntmps := 42, pureF := pureF }
theorem ok45 : funOk k45 Tryz.f52 a45 = true := by kernel_rfl
noncomputable def k46 : Ck := { P := Tryz.prog, ι := iota, slots := [0, 1, 2, 8, 9, 20, 37], cells := [6, 7], ntmps := 60, pureF := pureF }
theorem ok46 : funOk k46 Tryz.f53 a46 = true := by kernel_rfl
noncomputable def k47 : Ck := { P := Tryz.prog, ι := iota, slots := [0, 2, 3], cells := [1], ntmps := 27, pureF := pureF }
theorem ok47 : funOk k47 Tryz.f54 a47 = true := by kernel_rfl
noncomputable def k48 : Ck := { P := Tryz.prog, ι := iota, slots := [0, 2, 3, 8], cells := [1], ntmps := 11, pureF := pureF }
theorem ok48 : funOk k48 Tryz.f55 a48 = true := by kernel_rfl
noncomputable def k49 : Ck := { P := Tryz.prog, ι := iota, slots := [0, 1, 9, 22], cells := [2, 3, 4], ntmps := 39, pureF := pureF }
theorem ok49 : funOk k49 Tryz.f57 a49 = true := by kernel_rfl
noncomputable def k50 : Ck := { P := Tryz.prog, ι := iota, slots := [0, 1, 5, 6, 7, 15], cells := [4], ntmps := 21, pureF := pureF }
theorem ok50 : funOk k50 Tryz.f58 a50 = true := by kernel_rfl
noncomputable def k51 : Ck := { P := Tryz.prog, ι := iota, slots := [0, 1, 3], cells := [2], ntmps := 8, pureF := pureF }
theorem ok51 : funOk k51 Tryz.f60 a51 = true := by kernel_rfl
noncomputable def k52 : Ck := { P := Tryz.prog, ι := iota, slots := [0, 1, 4], cells := [], ntmps := 9, pureF := pureF }
theorem ok52 : funOk k52 Tryz.f59 a52 = true := by kernel_rfl
noncomputable def k53 : Ck := { P := Tryz.prog, ι := iota, slots := [0, 1, 5, 19], cells := [2, 3, 4], ntmps := 42, pureF := pureF }
theorem ok53 : funOk k53 Tryz.f61 a53 = true := by kernel_rfl
noncomputable def k54 : Ck := { P := Tryz.prog, ι := iota, slots := [0, 1, 5, 9, 15], cells := [4], ntmps := 28, pureF := pureF }
theorem ok54 : funOk k54 Tryz.f62 a54 = true := by kernel_rfl
noncomputable def k55 : Ck := { P := Tryz.prog, ι := iota, slots := [0, 1, 2], cells := [], ntmps := 4, pureF := pureF }
theorem ok55 : funOk k55 Tryz.f64 a55 = true := by kernel_rfl
noncomputable def k57 : Ck := { P := Tryz.prog, ι := iota, slots := [0, 1, 4, 5, 10, 20, 31], cells := [], ntmps := 41, pureF := pureF }
theorem ok57 : funOk k57 Tryz.f65 a57 = true := by kernel_rfl
noncomputable def k58 : Ck := { P := Tryz.prog, ι := iota, slots := [0, 1, 2, 6, 7, 8, 9, 10, 18, 23], cells := [], ntmps := 38, pureF := pureF }
theorem ok58 : funOk k58 Tryz.f30 a58 = true := by kernel_rfl
noncomputable def k59 : Ck := { P := Tryz.prog, ι := iota, slots := [0], cells := [2], ntmps := 8, pureF := pureF }
theorem ok59 : funOk k59 Tryz.f67 a59 = true := by kernel_rfl
noncomputable def k60 : Ck := { P := Tryz.prog, ι := iota, slots := [0, 1], cells := [2, 3, 4, 5], ntmps := 14, pureF := pureF }
theorem ok60 : funOk k60 Tryz.f66 a60 = true := by kernel_rfl
noncomputable def k61 : Ck := { P := Tryz.prog, ι := iota, slots := [0, 1, 5, 6, 10], cells := [4], ntmps := 22, pureF := pureF }
theorem ok61 : funOk k61 Tryz.f68 a61 = true := by kernel_rfl
noncomputable def k62 : Ck := { P := Tryz.prog, ι := iota, slots := [0, 3, 4], cells := [1, 2, 5], ntmps := 25, pureF := pureF }
theorem ok62 : funOk k62 Tryz.f69 a62 = true := by kernel_rfl
noncomputable def k63 : Ck := { P := Tryz.prog, ι := iota, slots := [0, 1, 4, 5, 6, 7, 22, 28, 39], cells := [], ntmps := 55, pureF := pureF }
theorem ok63 : funOk k63 Tryz.f70 a63 = true := by kernel_rfl
noncomputable def k64 : Ck := { P := Tryz.prog, ι := iota, slots := [0, 1, 4, 5, 6, 7, 8, 13, 26, 35], cells := [], ntmps := 44, pureF := pureF }
theorem ok64 : funOk k64 Tryz.f71 a64 = true := by kernel_rfl
noncomputable def k65 : Ck := { P := Tryz.prog, ι := iota, slots := [0, 1, 4, 5], cells := [], ntmps := 11, pureF := pureF }
theorem ok65 : funOk k65 Tryz.f72 a65 = true := by kernel_rfl
noncomputable def k66 : Ck := { P := Tryz.prog, ι := iota, slots := [0, 1, 4, 5, 7, 8, 9, 16], cells := [], ntmps := 19, pureF := pureF }
theorem ok66 : funOk k66 Tryz.f73 a66 = true := by kernel_rfl
noncomputable def k67 : Ck := { P := Tryz.prog, ι := iota, slots := [0, 1, 4, 5, 6, 7, 8, 13, 24, 25, 26, 31], cells := [], ntmps := 56, pureF := pureF }
theorem ok67 : funOk k67 Tryz.f74 a67 = true := by kernel_rfl
noncomputable def k68 : Ck := { P := Tryz.prog, ι := iota, slots := [0, 1, 4, 5, 6, 7, 14, 20, 33], cells := [], ntmps := 35, pureF := pureF }
theorem ok68 : funOk k68 Tryz.f75 a68 = true := by kernel_rfl
noncomputable def k69 : Ck := { P := Tryz.prog, ι := iota, slots := [0, 1, 4, 5, 6, 7, 8, 13, 14, 15, 20], cells := [], ntmps := 40, pureF := pureF }
theorem ok69 : funOk k69 Tryz.f76 a69 = true := by kernel_rfl
noncomputable def k73 : Ck := { P := Tryz.prog, ι := iota, slots := [0, 1, 5, 7, 8, 9, 14, 24, 30, 36], cells := [2, 3, 4, 6], ntmps := 73, pureF := pureF }
theorem ok73 : funOk k73 Tryz.f80 a73 = true := by kernel_rfl
noncomputable def k74 : Ck := { P := Tryz.prog, ι := iota, slots := [0, 3, 4, 5, 6, 10, 22, 30, 45, 58, 108, 121, 127], cells := [1, 2, 7, 8], ntmps := 173, pureF := pureF }
theorem ok74 : funOk k74 Tryz.f81 a74 = true := by kernel_rfl
noncomputable def k75 : Ck := { P := Tryz.prog, ι := iota, slots := [0, 2, 3, 4, 8, 17], cells := [1], ntmps := 21, pureF := pureF }
theorem ok75 : funOk k75 Tryz.f82 a75 = true := by kernel_rfl
noncomputable def k76 : Ck := { P := Tryz.prog, ι := iota, slots := [0], cells := [1, 2, 3], ntmps := 12, pureF := pureF }
theorem ok76 : funOk k76 Tryz.f83 a76 = true := by kernel_rfl
noncomputable def k77 : Ck := { P := Tryz.prog, ι := iota, slots := [0, 1, 4], cells := [2], ntmps := 9, pureF := pureF }
theorem ok77 : funOk k77 Tryz.f85 a77 = true := by kernel_rfl
noncomputable def k78 : Ck := { P := Tryz.prog, ι := iota, slots := [0, 1, 2, 6, 7, 8, 9, 10, 11, 17, 31], cells := [], ntmps := 49, pureF := pureF }
theorem ok78 : funOk k78 Tryz.f84 a78 = true := by kernel_rfl
noncomputable def k79 : Ck := { P := Tryz.prog, ι := iota, slots := [0, 1, 2, 6, 7, 8], cells := [], ntmps := 22, pureF := pureF }
theorem ok79 : funOk k79 Tryz.f87 a79 = true := by kernel_rfl
noncomputable def k80 : Ck := { P := Tryz.prog, ι := iota, slots := [0, 1, 4, 5, 6, 11, 12, 13, 16, 19], cells := [], ntmps := 20, pureF := pureF }
theorem ok80 : funOk k80 Tryz.f86 a80 = true := by kernel_rfl
noncomputable def k81 : Ck := { P := Tryz.prog, ι := iota, slots := [0, 1, 4, 5, 6, 11, 12, 13, 16, 19], cells := [], ntmps := 20, pureF := pureF }
theorem ok81 : funOk k81 Tryz.f88 a81 = true := by kernel_rfl
noncomputable def k82 : Ck := { P := Tryz.prog, ι := iota, slots := [0, 1, 2, 6, 7], cells := [], ntmps := 25, pureF := pureF }
theorem ok82 : funOk k82 Tryz.f89 a82 = true := by kernel_rfl
noncomputable def k86 : Ck := { P := Tryz.prog, ι := iota, slots := [0, 2], cells := [1], ntmps := 13, pureF := pureF }
theorem ok86 : funOk k86 Tryz.f93 a86 = true := by kernel_rfl
noncomputable def k87 : Ck := { P := Tryz.prog, ι := iota, slots := [0, 1, 6, 21, 38, 51], cells := [2, 3, 4, 5, 7, 8], ntmps := 56, pureF := pureF }
theorem ok87 : funOk k87 Tryz.f94 a87 = true := by kernel_rfl
noncomputable def k88 : Ck := { P := Tryz.prog, ι := iota, slots := [0], cells := [1, 2], ntmps := 9, pureF := pureF }
theorem ok88 : funOk k88 Tryz.f96 a88 = true := by kernel_rfl
noncomputable def k89 : Ck := { P := Tryz.prog, ι := iota, slots := [0, 1, 2, 3, 8, 9, 10, 17, 61, 105], cells := [7], ntmps := 143, pureF := pureF }
theorem ok89 : funOk k89 Tryz.f95 a89 = true := by kernel_rfl
noncomputable def k90 : Ck := { P := Tryz.prog, ι := iota, slots := [0, 1, 2, 6, 7, 77], cells := [8], ntmps := 123, pureF := pureF }
theorem ok90 : funOk k90 Tryz.f97 a90 = true := by kernel_rfl
noncomputable def k91 : Ck := { P := Tryz.prog, ι := iota, slots := [0, 1, 4, 5, 6, 13, 44, 75], cells := [], ntmps := 100, pureF := pureF }
theorem ok91 : funOk k91 Tryz.f98 a91 = true := by kernel_rfl
noncomputable def k92 : Ck := { P := Tryz.prog, ι := iota, slots := [0, 1], cells := [2, 3, 4, 5, 6], ntmps := 16, pureF := pureF }
theorem ok92 : funOk k92 Tryz.f99 a92 = true := by kernel_rfl
noncomputable def k93 : Ck := { P := Tryz.prog, ι := iota, slots := [0, 2, 3, 7, 15], cells := [], ntmps := 17, pureF := pureF }
theorem ok93 : funOk k93 Tryz.f100 a93 = true := by kernel_rfl
noncomputable def k94 : Ck := { P := Tryz.prog, ι := iota, slots := [0, 1], cells := [2, 4], ntmps := 13, pureF := pureF }
theorem ok94 : funOk k94 Tryz.f101 a94 = true := by kernel_rfl
noncomputable def k95 : Ck := { P := Tryz.prog, ι := iota, slots := [0, 2], cells := [], ntmps := 6, pureF := pureF }
theorem ok95 : funOk k95 Tryz.f102 a95 = true := by kernel_rfl
noncomputable def k96 : Ck := { P := Tryz.prog, ι := iota, slots := [0, 2], cells := [], ntmps := 6, pureF := pureF }
theorem ok96 : funOk k96 Tryz.f103 a96 = true := by kernel_rfl
noncomputable def k108 : Ck := { P := Tryz.prog, ι := iota, slots := [0], cells := [1, 2], ntmps := 6, pureF := pureF }
theorem ok108 : funOk k108 Tryz.f115 a108 = true := by kernel_rfl
noncomputable def k109 : Ck := { P := Tryz.prog, ι := iota, slots := [0, 4, 10], cells := [2, 3], ntmps := 22, pureF := pureF }
theorem ok109 : funOk k109 Tryz.f116 a109 = true := by kernel_rfl
noncomputable def k110 : Ck := { P := Tryz.prog, ι := iota, slots := [0, 1, 6, 7, 8, 14, 18, 42, 62], cells := [4, 5, 9, 10, 11, 12, 13], ntmps := 86, pureF := pureF }
theorem ok110 : funOk k110 Tryz.f117 a110 = true := by kernel_rfl
noncomputable def k111 : Ck := { P := Tryz.prog, ι := iota, slots := [0, 1], cells := [2, 3, 4], ntmps := 9, pureF := pureF }
theorem ok111 : funOk k111 Tryz.f118 a111 = true := by kernel_rfl
noncomputable def k117 : Ck := { P := Tryz.prog, ι := iota, slots := [0, 1, 6, 7, 16, 22], cells := [2, 3, 4, 5], ntmps := 43, pureF := pureF }
theorem ok117 : funOk k117 Tryz.f124 a117 = true := by kernel_rfl
noncomputable def k118 : Ck := { P := Tryz.prog, ι := iota, slots := [0, 1, 4, 5, 6, 7, 8, 16], cells := [], ntmps := 42, pureF := pureF }
theorem ok118 : funOk k118 Tryz.f125 a118 = true := by kernel_rfl
noncomputable def k119 : Ck := { P := Tryz.prog, ι := iota, slots := [0, 1, 5, 6, 7, 8, 9, 26], cells := [4], ntmps := 66, pureF := pureF }
theorem ok119 : funOk k119 Tryz.f126 a119 = true := by kernel_rfl
noncomputable def k121 : Ck := { P := Tryz.prog, ι := iota, slots := [0, 1, 4, 5, 7, 10, 19], cells := [6], ntmps := 34, pureF := pureF }
theorem ok121 : funOk k121 Tryz.f56 a121 = true := by kernel_rfl
noncomputable def k122 : Ck := { P := Tryz.prog, ι := iota, slots := [0, 1, 2, 6, 7, 8, 10, 11, 12, 13, 14, 15, 16, 17, 18, 19, 20, 21, 22, 23, 24, 25, 33, 93, 120, 148, 152, 179], cells := [3, 9], ntmps := 181, pureF := pureF }
theorem ok122 : funOk k122 Tryz.f4 a122 = true := by kernel_rfl
noncomputable def k123 : Ck := { P := Tryz.prog, ι := iota, slots := [0, 1, 2, 6, 7, 8, 9, 10, 11, 12, 13, 14, 15, 16, 17, 18, 19, 20, 21, 22], cells := [3], ntmps := 110, pureF := pureF }
theorem ok123 : funOk k123 Tryz.f3 a123 = true := by kernel_rfl
noncomputable def k124 : Ck := { P := Tryz.prog, ι := iota, slots := [0, 1, 2, 5, 6, 7, 8, 9, 10, 11, 12, 13, 14, 15, 16, 17, 70, 72], cells := [3], ntmps := 96, pureF := pureF }
theorem ok124 : funOk k124 Tryz.f5 a124 = true := by kernel_rfl
theorem funs : ∀ g f, GP g = some f → ∃ k fn, k.P = Tryz.prog ∧ k.ι = iota ∧ k.pureF = pureF ∧ Tryz.prog.funcs[iota g]? = some fn ∧ funOk k fn f = true := by
  intro g f h
  unfold GP at h
  split at h
  · cases h; exact ⟨k0, Tryz.f6, rfl, rfl, rfl, Tryz.func6, ok0⟩
  · cases h; exact ⟨k1, Tryz.f7, rfl, rfl, rfl, Tryz.func7, ok1⟩
  · cases h; exact ⟨k2, Tryz.f9, rfl, rfl, rfl, Tryz.func9, ok2⟩
  · cases h; exact ⟨k3, Tryz.f8, rfl, rfl, rfl, Tryz.func8, ok3⟩
  · cases h; exact ⟨k4, Tryz.f10, rfl, rfl, rfl, Tryz.func10, ok4⟩
  · cases h; exact ⟨k5, Tryz.f11, rfl, rfl, rfl, Tryz.func11, ok5⟩
  · cases h; exact ⟨k6, Tryz.f12, rfl, rfl, rfl, Tryz.func12, ok6⟩
  · cases h; exact ⟨k7, Tryz.f13, rfl, rfl, rfl, Tryz.func13, ok7⟩
  · cases h; exact ⟨k8, Tryz.f14, rfl, rfl, rfl, Tryz.func14, ok8⟩
  · cases h; exact ⟨k9, Tryz.f15, rfl, rfl, rfl, Tryz.func15, ok9⟩
  · cases h; exact ⟨k10, Tryz.f16, rfl, rfl, rfl, Tryz.func16, ok10⟩
  · cases h; exact ⟨k11, Tryz.f17, rfl, rfl, rfl, Tryz.func17, ok11⟩
  · cases h; exact ⟨k12, Tryz.f18, rfl, rfl, rfl, Tryz.func18, ok12⟩
  · cases h; exact ⟨k13, Tryz.f19, rfl, rfl, rfl, Tryz.func19, ok13⟩
  · cases h; exact ⟨k14, Tryz.f20, rfl, rfl, rfl, Tryz.func20, ok14⟩
  · cases h; exact ⟨k15, Tryz.f21, rfl, rfl, rfl, Tryz.func21, ok15⟩
  · cases h; exact ⟨k16, Tryz.f22, rfl, rfl, rfl, Tryz.func22, ok16⟩
  · cases h; exact ⟨k17, Tryz.f23, rfl, rfl, rfl, Tryz.func23, ok17⟩
  · cases h; exact ⟨k18, Tryz.f25, rfl, rfl, rfl, Tryz.func25, ok18⟩
  · cases h; exact ⟨k19, Tryz.f26, rfl, rfl, rfl, Tryz.func26, ok19⟩
  · cases h; exact ⟨k20, Tryz.f24, rfl, rfl, rfl, Tryz.func24, ok20⟩
  · cases h; exact ⟨k21, Tryz.f31, rfl, rfl, rfl, Tryz.func31, ok21⟩
  · cases h; exact ⟨k22, Tryz.f32, rfl, rfl, rfl, Tryz.func32, ok22⟩
  · cases h; exact ⟨k23, Tryz.f33, rfl, rfl, rfl, Tryz.func33, ok23⟩
  · cases h; exact ⟨k24, Tryz.f29, rfl, rfl, rfl, Tryz.func29, ok24⟩
  · cases h; exact ⟨k25, Tryz.f34, rfl, rfl, rfl, Tryz.func34, ok25⟩
  · cases h; exact ⟨k26, Tryz.f35, rfl, rfl, rfl, Tryz.func35, ok26⟩
  · cases h; exact ⟨k27, Tryz.f36, rfl, rfl, rfl, Tryz.func36, ok27⟩
  · cases h; exact ⟨k28, Tryz.f37, rfl, rfl, rfl, Tryz.func37, ok28⟩
  · cases h; exact ⟨k29, Tryz.f38, rfl, rfl, rfl, Tryz.func38, ok29⟩
  · cases h; exact ⟨k30, Tryz.f39, rfl, rfl, rfl, Tryz.func39, ok30⟩
  · cases h; exact ⟨k31, Tryz.f40, rfl, rfl, rfl, Tryz.func40, ok31⟩
  · cases h; exact ⟨k32, Tryz.f42, rfl, rfl, rfl, Tryz.func42, ok32⟩
  · cases h; exact ⟨k33, Tryz.f41, rfl, rfl, rfl, Tryz.func41, ok33⟩
  · cases h; exact ⟨k34, Tryz.f43, rfl, rfl, rfl, Tryz.func43, ok34⟩
  · cases h; exact ⟨k35, Tryz.f44, rfl, rfl, rfl, Tryz.func44, ok35⟩
  · cases h; exact ⟨k36, Tryz.f27, rfl, rfl, rfl, Tryz.func27, ok36⟩
  · cases h; exact ⟨k37, Tryz.f45, rfl, rfl, rfl, Tryz.func45, ok37⟩
  · cases h; exact ⟨k38, Tryz.f46, rfl, rfl, rfl, Tryz.func46, ok38⟩
  · cases h; exact ⟨k39, Tryz.f28, rfl, rfl, rfl, Tryz.func28, ok39⟩
  · cases h; exact ⟨k40, Tryz.f47, rfl, rfl, rfl, Tryz.func47, ok40⟩
  · cases h; exact ⟨k41, Tryz.f48, rfl, rfl, rfl, Tryz.func48, ok41⟩
  · cases h; exact ⟨k42, Tryz.f49, rfl, rfl, rfl, Tryz.func49, ok42⟩
  · cases h; exact ⟨k43, Tryz.f50, rfl, rfl, rfl, Tryz.func50, ok43⟩
  · cases h; exact ⟨k44, Tryz.f51, rfl, rfl, rfl, Tryz.func51, ok44⟩
  · cases h; exact ⟨k45, Tryz.f52, rfl, rfl, rfl, Tryz.func52, ok45⟩
  · cases h; exact ⟨k46, Tryz.f53, rfl, rfl, rfl, Tryz.func53, ok46⟩
  · cases h; exact ⟨k47, Tryz.f54, rfl, rfl, rfl, Tryz.func54, ok47⟩
  · cases h; exact ⟨k48, Tryz.f55, rfl, rfl, rfl, Tryz.func55, ok48⟩
  · cases h; exact ⟨k49, Tryz.f57, rfl, rfl, rfl, Tryz.func57, ok49⟩
  · cases h; exact ⟨k50, Tryz.f58, rfl, rfl, rfl, Tryz.func58, ok50⟩
  · cases h; exact ⟨k51, Tryz.f60, rfl, rfl, rfl, Tryz.func60, ok51⟩
  · cases h; exact ⟨k52, Tryz.f59, rfl, rfl, rfl, Tryz.func59, ok52⟩
  · cases h; exact ⟨k53, Tryz.f61, rfl, rfl, rfl, Tryz.func61, ok53⟩
  · cases h; exact ⟨k54, Tryz.f62, rfl, rfl, rfl, Tryz.func62, ok54⟩
  · cases h; exact ⟨k55, Tryz.f64, rfl, rfl, rfl, Tryz.func64, ok55⟩
  · cases h; exact ⟨k57, Tryz.f65, rfl, rfl, rfl, Tryz.func65, ok57⟩
  · cases h; exact ⟨k58, Tryz.f30, rfl, rfl, rfl, Tryz.func30, ok58⟩
  · cases h; exact ⟨k59, Tryz.f67, rfl, rfl, rfl, Tryz.func67, ok59⟩
  · cases h; exact ⟨k60, Tryz.f66, rfl, rfl, rfl, Tryz.func66, ok60⟩
  · cases h; exact ⟨k61, Tryz.f68, rfl, rfl, rfl, Tryz.func68, ok61⟩
  · cases h; exact ⟨k62, Tryz.f69, rfl, rfl, rfl, Tryz.func69, ok62⟩
  · cases h; exact ⟨k63, Tryz.f70, rfl, rfl, rfl, Tryz.func70, ok63⟩
  · cases h; exact ⟨k64, Tryz.f71, rfl, rfl, rfl, Tryz.func71, ok64⟩
  · cases h; exact ⟨k65, Tryz.f72, rfl, rfl, rfl, Tryz.func72, ok65⟩
  · cases h; exact ⟨k66, Tryz.f73, rfl, rfl, rfl, Tryz.func73, ok66⟩
  · cases h; exact ⟨k67, Tryz.f74, rfl, rfl, rfl, Tryz.func74, ok67⟩
  · cases h; exact ⟨k68, Tryz.f75, rfl, rfl, rfl, Tryz.func75, ok68⟩
  · cases h; exact ⟨k69, Tryz.f76, rfl, rfl, rfl, Tryz.func76, ok69⟩
  · cases h; exact ⟨k73, Tryz.f80, rfl, rfl, rfl, Tryz.func80, ok73⟩
  · cases h; exact ⟨k74, Tryz.f81, rfl, rfl, rfl, Tryz.func81, ok74⟩
  · cases h; exact ⟨k75, Tryz.f82, rfl, rfl, rfl, Tryz.func82, ok75⟩
  · cases h; exact ⟨k76, Tryz.f83, rfl, rfl, rfl, Tryz.func83, ok76⟩
  · cases h; exact ⟨k77, Tryz.f85, rfl, rfl, rfl, Tryz.func85, ok77⟩
  · cases h; exact ⟨k78, Tryz.f84, rfl, rfl, rfl, Tryz.func84, ok78⟩
  · cases h; exact ⟨k79, Tryz.f87, rfl, rfl, rfl, Tryz.func87, ok79⟩
  · cases h; exact ⟨k80, Tryz.f86, rfl, rfl, rfl, Tryz.func86, ok80⟩
  · cases h; exact ⟨k81, Tryz.f88, rfl, rfl, rfl, Tryz.func88, ok81⟩
  · cases h; exact ⟨k82, Tryz.f89, rfl, rfl, rfl, Tryz.func89, ok82⟩
  · cases h; exact ⟨k86, Tryz.f93, rfl, rfl, rfl, Tryz.func93, ok86⟩
  · cases h; exact ⟨k87, Tryz.f94, rfl, rfl, rfl, Tryz.func94, ok87⟩
  · cases h; exact ⟨k88, Tryz.f96, rfl, rfl, rfl, Tryz.func96, ok88⟩
  · cases h; exact ⟨k89, Tryz.f95, rfl, rfl, rfl, Tryz.func95, ok89⟩
  · cases h; exact ⟨k90, Tryz.f97, rfl, rfl, rfl, Tryz.func97, ok90⟩
  · cases h; exact ⟨k91, Tryz.f98, rfl, rfl, rfl, Tryz.func98, ok91⟩
  · cases h; exact ⟨k92, Tryz.f99, rfl, rfl, rfl, Tryz.func99, ok92⟩
  · cases h; exact ⟨k93, Tryz.f100, rfl, rfl, rfl, Tryz.func100, ok93⟩
  · cases h; exact ⟨k94, Tryz.f101, rfl, rfl, rfl, Tryz.func101, ok94⟩
  · cases h; exact ⟨k95, Tryz.f102, rfl, rfl, rfl, Tryz.func102, ok95⟩
  · cases h; exact ⟨k96, Tryz.f103, rfl, rfl, rfl, Tryz.func103, ok96⟩
  · cases h; exact ⟨k108, Tryz.f115, rfl, rfl, rfl, Tryz.func115, ok108⟩
  · cases h; exact ⟨k109, Tryz.f116, rfl, rfl, rfl, Tryz.func116, ok109⟩
  · cases h; exact ⟨k110, Tryz.f117, rfl, rfl, rfl, Tryz.func117, ok110⟩
  · cases h; exact ⟨k111, Tryz.f118, rfl, rfl, rfl, Tryz.func118, ok111⟩
  · cases h; exact ⟨k117, Tryz.f124, rfl, rfl, rfl, Tryz.func124, ok117⟩
  · cases h; exact ⟨k118, Tryz.f125, rfl, rfl, rfl, Tryz.func125, ok118⟩
  · cases h; exact ⟨k119, Tryz.f126, rfl, rfl, rfl, Tryz.func126, ok119⟩
  · cases h; exact ⟨k121, Tryz.f56, rfl, rfl, rfl, Tryz.func56, ok121⟩
  · cases h; exact ⟨k122, Tryz.f4, rfl, rfl, rfl, Tryz.func4, ok122⟩
  · cases h; exact ⟨k123, Tryz.f3, rfl, rfl, rfl, Tryz.func3, ok123⟩
  · cases h; exact ⟨k124, Tryz.f5, rfl, rfl, rfl, Tryz.func5, ok124⟩
  · cases h
theorem pureModes : (pures.all fun g => match GP g with | some f => (match f.mode with | .iso => true | _ => false) | none => true) = true := by kernel_rfl
theorem pureMode (g : Nat) (hg : pureF g = true) (f : AFun) (h : GP g = some f) : f.mode = .iso := by
  have := (List.all_eq_true.1 pureModes) g (by simpa [pureF] using hg)
  rw [h] at this
  simp only at this
  split at this <;> simp_all
theorem no56 (g : Nat) (hg : pureF g = true) : g ≠ 56 := by
  rintro rfl
  have : pureF 56 = false := by kernel_rfl
  rw [this] at hg; cases hg
theorem tied : Tied Tryz.prog iota pureF E1 GP where
  funs := funs
  pureG := fun g hg => ⟨pureMode g hg, fun args H H2 _ => if_neg (no56 g hg)⟩
  pureE := fun g hg args H r H' b h => by
    rw [show E1 g args H = none from if_neg (no56 g hg)] at h; cases h
  keepE := E1_keeps
  soundE := E1_sound (ρ := Go.Proofs.Tryz.keysA_ren) (ρ' := Go.Proofs.Tryz.sortedA_ren) { Go.Proofs.Tryz.keysA with } Go.Proofs.Tryz.sortedA Go.Proofs.Tryz.sortsA (enters_of Tryz.func63 (by kernel_rfl) rfl) (enters_of Tryz.func78 (by kernel_rfl) rfl) (enters_of Tryz.func79 (by kernel_rfl) rfl) rfl rfl
theorem own : ownKnob Tryz.prog.godebug = none := by kernel_rfl
theorem laidOut : laidOutB Tryz.prog = true := by kernel_rfl
end Go.Proofs.YtalcodolmmaciaaGreat
