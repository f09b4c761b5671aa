/-
  The program of this seat and the machine's code: every function fits.
-/
import Derived.Test.YtejciamannpljaaGreatRows
import Derived.Test.YtejciamannpljaaGreatLay
import Derived.Test.YtejciamannpljaaGreatOnce
import Derived.Test.YtejciamannpljaaGreatM01
import Derived.Test.YtejciamannpljaaGreatM02
import Derived.Test.YtejciamannpljaaGreatM03
import Derived.Test.YtejciamannpljaaGreatM04
import Derived.Test.YtejciamannpljaaGreatM05
import Derived.Test.YtejciamannpljaaGreatM06
import Derived.Test.YtejciamannpljaaGreatM07
import Derived.Test.YtejciamannpljaaGreatM08
import Derived.Test.YtejciamannpljaaGreatM09
import Derived.Test.YtejciamannpljaaGreatM10
import Derived.Test.YtejciamannpljaaGreatM11
import Derived.Test.YtejciamannpljaaGreatM12
import Derived.Test.YtejciamannpljaaGreatM13
import Derived.Test.YtejciamannpljaaGreatM14
import Derived.KernelRfl
namespace Go.Proofs.YtejciamannpljaaGreat
open Tor
set_option maxRecDepth 100000
def iota : Nat → FuncId := fun g => ([0, 40, 61, 62, 44, 63, 45, 75, 52, 94, 19, 0, 33, 58, 26, 16, 27, 28, 55, 29, 0, 38, 85, 0, 0, 0, 43, 36, 78, 66, 81, 70, 83, 82, 84, 49, 35, 59, 65, 57, 56, 67, 68, 69, 0, 71, 96, 79, 80, 98, 102, 104, 103, 105, 89, 107, 106, 97, 95, 0, 31, 53, 100, 111, 112, 116, 117, 118, 108, 119, 120, 121, 122, 73, 113, 114, 115, 139, 138, 140, 123, 124, 141, 142, 144, 143, 129, 130, 132, 131, 133, 134, 135, 136, 137, 145, 146, 155, 156, 157, 158, 159, 160, 161, 162, 163, 164, 165, 151, 152, 153, 154, 177, 178, 179, 180, 181, 174, 175, 176, 189, 74, 0, 0, 0, 0, 0, 0, 85, 0, 0, 0, 0, 0, 0, 0, 0, 0, 0, 0, 0, 0, 0, 0, 0, 0, 0, 0, 0, 0, 0, 0, 0, 0, 0, 0, 0, 0, 0, 0, 48, 0, 0, 0, 0, 0, 0, 0, 88, 0, 0, 0, 0, 0, 0, 0, 0, 0, 0, 0, 0, 0, 0, 0, 0, 0, 0, 0, 0, 0, 0, 0, 0, 0, 0, 0, 0, 0, 0, 0, 0, 0, 0, 0, 0, 0, 0, 0, 0, 0, 3, 8, 9, 10, 12, 13, 11, 14, 15, 17, 18, 20, 4, 21, 22, 23, 24, 25, 5, 6, 30, 32, 7, 34, 37, 39, 42, 41, 46, 47, 50, 51, 54, 60, 64, 72, 76, 77, 87, 86, 91, 90, 93, 92, 99, 101, 109, 110, 125, 126, 147, 148, 127, 150, 149, 128, 166, 167, 168, 170, 182, 183, 184, 185, 186, 172, 173, 187, 188, 37, 50, 90, 1, 2] : List Nat).getD g 0
def pures : List Nat := [0, 1, 2, 3, 4, 5, 6, 7, 8, 9, 10, 11, 12, 13, 14, 15, 16, 17, 18, 19, 20, 21, 22, 23, 24, 25, 26, 27, 28, 29, 30, 31, 32, 35, 36, 37, 39, 40, 41, 42, 43, 44, 45, 46, 47, 48, 49, 50, 53, 57, 58, 59, 60, 62, 63, 64, 65, 67, 68, 69, 70, 71, 72, 73, 74, 75, 76, 77, 79, 80, 81, 82, 83, 84, 85, 87, 88, 92, 93, 94, 95, 96, 97, 98, 99, 100, 101, 102, 103, 104, 105, 106, 107, 110, 111, 112, 113, 114, 115, 116, 118, 119, 120, 121, 122, 123, 124, 126, 127, 129, 130, 131, 132, 133, 134, 135, 136, 137, 138, 139, 140, 141, 142, 143, 144, 145, 146, 147, 148, 149, 150, 151, 152, 153, 154, 155, 156, 157, 158, 159, 160, 161, 162, 163, 164, 165, 166, 167, 168, 169, 170, 171, 172, 173, 174, 175, 176, 177, 178, 179, 180, 181, 182, 183, 184, 185, 186, 187, 188, 189, 190, 191, 192, 193, 194, 195, 196, 197, 198, 199, 200, 201, 202, 203, 204, 205, 206, 207, 208, 209, 210, 211, 212, 213, 214, 215, 216, 217, 218, 219, 220, 221, 222, 223, 224, 225, 226, 227, 228, 229, 230, 231, 232, 233, 234, 235, 236, 237, 239, 240, 242, 243, 244, 245, 246, 247, 248, 249, 250, 251, 254, 255, 256, 257, 258, 259, 260, 261, 262, 263, 264, 265, 266, 267, 268, 269, 270, 271, 272, 273, 274, 275, 276, 277, 278, 282, 283]
def pureF : Nat → Bool := fun g => pures.contains g
noncomputable def k1 : Ck := { P := Tryz.prog, ι := iota, slots := [0, 2, 3, 4, 16], cells := [1], ntmps := 27, pureF := pureF }
theorem ok1 : funOk k1 Tryz.f40 a1 = true := by kernel_rfl
noncomputable def k2 : Ck := { P := Tryz.prog, ι := iota, slots := [0, 2, 3, 4, 13], cells := [], ntmps := 37, pureF := pureF }
theorem ok2 : funOk k2 Tryz.f61 a2 = true := by kernel_rfl
noncomputable def k3 : Ck := { P := Tryz.prog, ι := iota, slots := [0, 2, 3, 4, 9], cells := [], ntmps := 19, pureF := pureF }
theorem ok3 : funOk k3 Tryz.f62 a3 = true := by kernel_rfl
noncomputable def k4 : Ck := { P := Tryz.prog, ι := iota, slots := [0, 1, 4, 5, 7, 8], cells := [], ntmps := 18, pureF := pureF }
theorem ok4 : funOk k4 Tryz.f44 a4 = true := by kernel_rfl
noncomputable def k5 : Ck := { P := Tryz.prog, ι := iota, slots := [0, 1, 4, 5, 6, 7, 8, 10, 14, 28, 36, 39], cells := [9], ntmps := 41, pureF := pureF }
theorem ok5 : funOk k5 Tryz.f63 a5 = true := by kernel_rfl
noncomputable def k6 : Ck := { P := Tryz.prog, ι := iota, slots := [0, 1, 4, 5, 6, 8, 9, 10, 22, 25, 26, 27, 28, 33, 34, 35, 36], cells := [11, 13], ntmps := 55, pureF := pureF }
theorem ok6 : funOk k6 Tryz.f45 a6 = true := by kernel_rfl
noncomputable def k7 : Ck := { P := Tryz.prog, ι := iota, slots := [0, 1, 4, 5, 7, 8, 9, 19, 25], cells := [10], ntmps := 48, pureF := pureF }
theorem ok7 : funOk k7 Tryz.f75 a7 = true := by kernel_rfl
noncomputable def k8 : Ck := { P := Tryz.prog, ι := iota, slots := [0, 1, 2, 6, 7, 9, 10, 11, 14, 16, 24, 28, 38, 39, 40, 41, 52, 53, 54, 55], cells := [13], ntmps := 66, pureF := pureF }
theorem ok8 : funOk k8 Tryz.f52 a8 = true := by kernel_rfl
noncomputable def k10 : Ck := { P := Tryz.prog, ι := iota, slots := [0, 1, 4, 5, 10, 14, 41], cells := [], ntmps := 42, pureF := pureF }
theorem ok10 : funOk k10 Tryz.f19 a10 = true := by kernel_rfl
noncomputable def k13 : Ck := { P := Tryz.prog, ι := iota, slots := [0, 1, 4, 5, 10, 14, 26], cells := [], ntmps := 27, pureF := pureF }
theorem ok13 : funOk k13 Tryz.f58 a13 = true := by kernel_rfl
noncomputable def k14 : Ck := { P := Tryz.prog, ι := iota, slots := [0, 3, 7], cells := [2], ntmps := 19, pureF := pureF }
theorem ok14 : funOk k14 Tryz.f26 a14 = true := by kernel_rfl
noncomputable def k16 : Ck := { P := Tryz.prog, ι := iota, slots := [0, 1, 2, 6, 7, 8, 13], cells := [5], ntmps := 32, pureF := pureF }
theorem ok16 : funOk k16 Tryz.f27 a16 = true := by kernel_rfl
noncomputable def k17 : Ck := { P := Tryz.prog, ι := iota, slots := [0, 2, 3, 7, 43], cells := [], ntmps := 44, pureF := pureF }
theorem ok17 : funOk k17 Tryz.f28 a17 = true := by kernel_rfl
noncomputable def k19 : Ck := { P := Tryz.prog, ι := iota, slots := [0, 1, 5, 6, 7, 8, 26], cells := [4, 9], ntmps := 48, pureF := pureF }
theorem ok19 : funOk k19 Tryz.f29 a19 = true := by kernel_rfl
noncomputable def k21 : Ck := { P := Tryz.prog, ι := iota, slots := [0, 1, 2, 7, 8, 14], cells := [6], ntmps := 34, pureF := pureF }
theorem ok21 : funOk k21 Tryz.f38 a21 = true := by kernel_rfl
noncomputable def k22 : Ck := { P := Tryz.prog, ι := iota, slots := [0, 2, 3, 7, 8, 9, 10], cells := [5], ntmps := 22, pureF := pureF }
theorem ok22 : funOk k22 Tryz.f85 a22 = true := by kernel_rfl
noncomputable def k26 : Ck := { P := Tryz.prog, ι := iota, slots := [0, 2, 3, 5, 6, 7, 8, 36], cells := [4], ntmps := 38, pureF := pureF }
theorem ok26 : funOk k26 Tryz.f43 a26 = true := by kernel_rfl
noncomputable def k27 : Ck := { P := Tryz.prog, ι := iota, slots := [0, 2, 5, 19, 20, 24, 29, 36, 41, 44, 51, 56, 63, 70, 78, 86, 95], cells := [3, 4], ntmps := 104, pureF := pureF }
theorem ok27 : funOk k27 Tryz.f36 a27 = true := by kernel_rfl
noncomputable def k28 : Ck := { P := Tryz.prog, ι := iota, slots := [0, 1, 3, 4, 5, 6, 7, 8, 9, 10, 28, 46], cells := [], ntmps := 71, pureF := pureF }
theorem ok28 : funOk k28 Tryz.f78 a28 = true := by kernel_rfl
noncomputable def k29 : Ck := { P := Tryz.prog, ι := iota, slots := [0, 1, 4, 5, 6, 7, 17, 31, 47, 58, 74], cells := [3, 8], ntmps := 80, pureF := pureF }
theorem ok29 : funOk k29 Tryz.f66 a29 = true := by kernel_rfl
noncomputable def k30 : Ck := { P := Tryz.prog, ι := iota, slots := [0, 1, 4, 5, 6, 7, 11, 12, 13, 14, 15, 16, 27, 35, 42], cells := [9, 10], ntmps := 45, pureF := pureF }
theorem ok30 : funOk k30 Tryz.f81 a30 = true := by kernel_rfl
noncomputable def k31 : Ck := { P := Tryz.prog, ι := iota, slots := [0, 1, 5, 6, 10, 19], cells := [4], ntmps := 25, pureF := pureF }
theorem ok31 : funOk k31 Tryz.f70 a31 = true := by kernel_rfl
noncomputable def k32 : Ck := { P := Tryz.prog, ι := iota, slots := [0, 1, 5, 6, 7, 8, 9, 10, 20, 21, 22, 23, 28, 29, 30, 31], cells := [2, 3, 4], ntmps := 77, pureF := pureF }
theorem ok32 : funOk k32 Tryz.f83 a32 = true := by kernel_rfl
noncomputable def k33 : Ck := { P := Tryz.prog, ι := iota, slots := [0, 1, 2, 13], cells := [5], ntmps := 19, pureF := pureF }
theorem ok33 : funOk k33 Tryz.f82 a33 = true := by kernel_rfl
noncomputable def k34 : Ck := { P := Tryz.prog, ι := iota, slots := [0, 2, 3, 5, 8, 9, 10, 11], cells := [], ntmps := 24, pureF := pureF }
theorem ok34 : funOk k34 Tryz.f84 a34 = true := by kernel_rfl
noncomputable def k35 : Ck := { P := Tryz.prog, ι := iota, slots := [0, 1, 4, 5, 8, 9, 10, 11, 17], cells := [7], ntmps := 25, pureF := pureF }
theorem ok35 : funOk k35 Tryz.f49 a35 = true := by kernel_rfl
noncomputable def k36 : Ck := { P := Tryz.prog, ι := iota, slots := [0, 1, 4, 5, 6, 11, 20], cells := [], ntmps := 30, pureF := pureF }
theorem ok36 : funOk k36 Tryz.f35 a36 = true := by kernel_rfl
noncomputable def k37 : Ck := { P := Tryz.prog, ι := iota, slots := [0, 1, 4], cells := [2, 3], ntmps := 26, pureF := pureF }
theorem ok37 : funOk k37 Tryz.f59 a37 = true := by kernel_rfl
noncomputable def k38 : Ck := { P := Tryz.prog, ι := iota, slots := [0, 1, 5, 17], cells := [4], ntmps := 31, pureF := pureF }
theorem ok38 : funOk k38 Tryz.f65 a38 = true := by kernel_rfl
noncomputable def k40 : Ck := { P := Tryz.prog, ι := iota, slots := [0, 1, 2, 6, 7], cells := [], ntmps := 17, pureF := pureF }
theorem ok40 : funOk k40 Tryz.f56 a40 = true := by kernel_rfl
noncomputable def k41 : Ck := { P := Tryz.prog, ι := iota, slots := [0, 1, 5, 6, 7, 8, 22, 33, 49], cells := [2, 3, 4], ntmps := 81, pureF := pureF }
theorem ok41 : funOk k41 Tryz.f67 a41 = true := by kernel_rfl
noncomputable def k42 : Ck := { P := Tryz.prog, ι := iota, slots := [0, 2, 6], cells := [1], ntmps := 19, pureF := pureF }
theorem ok42 : funOk k42 Tryz.f68 a42 = true := by kernel_rfl
noncomputable def k43 : Ck := { P := Tryz.prog, ι := iota, slots := [0, 2, 6, 8], cells := [1], ntmps := 9, pureF := pureF }
theorem ok43 : funOk k43 Tryz.f69 a43 = true := by kernel_rfl
noncomputable def k45 : Ck := { P := Tryz.prog, ι := iota, slots := [0, 1, 4, 5, 6, 7, 14, 20, 32], cells := [], ntmps := 42, pureF := pureF }
theorem ok45 : funOk k45 Tryz.f71 a45 = true := by kernel_rfl
noncomputable def k47 : Ck := { P := Tryz.prog, ι := iota, slots := [0, 2, 3], cells := [1], ntmps := 27, pureF := pureF }
theorem ok47 : funOk k47 Tryz.f79 a47 = true := by kernel_rfl
noncomputable def k48 : Ck := { P := Tryz.prog, ι := iota, slots := [0, 2, 3, 8], cells := [1], ntmps := 11, pureF := pureF }
theorem ok48 : funOk k48 Tryz.f80 a48 = true := by kernel_rfl
noncomputable def k49 : Ck := { P := Tryz.prog, ι := iota, slots := [0, 1, 9, 22], cells := [2, 3, 4], ntmps := 39, pureF := pureF }
theorem ok49 : funOk k49 Tryz.f98 a49 = true := by kernel_rfl
noncomputable def k50 : Ck := { P := Tryz.prog, ι := iota, slots := [0, 1, 5, 6, 7, 15], cells := [4], ntmps := 21, pureF := pureF }
theorem ok50 : funOk k50 Tryz.f102 a50 = true := by kernel_rfl
noncomputable def k51 : Ck := { P := Tryz.prog, ι := iota, slots := [0, 1, 3], cells := [2], ntmps := 8, pureF := pureF }
theorem ok51 : funOk k51 Tryz.f104 a51 = true := by kernel_rfl
noncomputable def k52 : Ck := { P := Tryz.prog, ι := iota, slots := [0, 1, 4], cells := [], ntmps := 9, pureF := pureF }
theorem ok52 : funOk k52 Tryz.f103 a52 = true := by kernel_rfl
noncomputable def k53 : Ck := { P := Tryz.prog, ι := iota, slots := [0, 1, 5, 19], cells := [2, 3, 4], ntmps := 42, pureF := pureF }
theorem ok53 : funOk k53 Tryz.f105 a53 = true := by kernel_rfl
noncomputable def k54 : Ck := { P := Tryz.prog, ι := iota, slots := [0, 1, 5, 9, 15], cells := [4], ntmps := 28, pureF := pureF }
theorem ok54 : funOk k54 Tryz.f89 a54 = true := by kernel_rfl
noncomputable def k55 : Ck := { P := Tryz.prog, ι := iota, slots := [0, 1, 2], cells := [], ntmps := 4, pureF := pureF }
theorem ok55 : funOk k55 Tryz.f107 a55 = true := by kernel_rfl
noncomputable def k57 : Ck := { P := Tryz.prog, ι := iota, slots := [0, 1, 4, 5, 10, 20, 31], cells := [], ntmps := 41, pureF := pureF }
theorem ok57 : funOk k57 Tryz.f97 a57 = true := by kernel_rfl
noncomputable def k58 : Ck := { P := Tryz.prog, ι := iota, slots := [0, 1, 2, 6, 7, 8, 9, 10, 18, 23], cells := [], ntmps := 38, pureF := pureF }
theorem ok58 : funOk k58 Tryz.f95 a58 = true := by kernel_rfl
noncomputable def k61 : Ck := { P := Tryz.prog, ι := iota, slots := [0, 1, 5, 6, 10], cells := [4], ntmps := 22, pureF := pureF }
theorem ok61 : funOk k61 Tryz.f53 a61 = true := by kernel_rfl
noncomputable def k62 : Ck := { P := Tryz.prog, ι := iota, slots := [0, 3, 4], cells := [1, 2, 5], ntmps := 25, pureF := pureF }
theorem ok62 : funOk k62 Tryz.f100 a62 = true := by kernel_rfl
noncomputable def k63 : Ck := { P := Tryz.prog, ι := iota, slots := [0, 1, 4, 5, 6, 7, 22, 28, 39], cells := [], ntmps := 55, pureF := pureF }
theorem ok63 : funOk k63 Tryz.f111 a63 = true := by kernel_rfl
noncomputable def k64 : Ck := { P := Tryz.prog, ι := iota, slots := [0, 1, 4, 5, 6, 7, 8, 13, 26, 35], cells := [], ntmps := 44, pureF := pureF }
theorem ok64 : funOk k64 Tryz.f112 a64 = true := by kernel_rfl
noncomputable def k65 : Ck := { P := Tryz.prog, ι := iota, slots := [0, 1, 4, 5], cells := [], ntmps := 11, pureF := pureF }
theorem ok65 : funOk k65 Tryz.f116 a65 = true := by kernel_rfl
noncomputable def k66 : Ck := { P := Tryz.prog, ι := iota, slots := [0, 1, 4, 5, 7, 8, 9, 16], cells := [], ntmps := 19, pureF := pureF }
theorem ok66 : funOk k66 Tryz.f117 a66 = true := by kernel_rfl
noncomputable def k67 : Ck := { P := Tryz.prog, ι := iota, slots := [0, 1, 4, 5, 6, 7, 8, 13, 24, 25, 26, 31], cells := [], ntmps := 56, pureF := pureF }
theorem ok67 : funOk k67 Tryz.f118 a67 = true := by kernel_rfl
noncomputable def k68 : Ck := { P := Tryz.prog, ι := iota, slots := [0, 1, 4, 5, 6, 7, 14, 20, 33], cells := [], ntmps := 35, pureF := pureF }
theorem ok68 : funOk k68 Tryz.f108 a68 = true := by kernel_rfl
noncomputable def k69 : Ck := { P := Tryz.prog, ι := iota, slots := [0, 1, 4, 5, 6, 7, 8, 13, 14, 15, 20], cells := [], ntmps := 40, pureF := pureF }
theorem ok69 : funOk k69 Tryz.f119 a69 = true := by kernel_rfl
noncomputable def k74 : Ck := { P := Tryz.prog, ι := iota, slots := [0, 3, 4, 5, 6, 10, 22, 30, 45, 58, 108, 121, 127], cells := [1, 2, 7, 8], ntmps := 173, pureF := pureF }
theorem ok74 : funOk k74 Tryz.f113 a74 = true := by kernel_rfl
noncomputable def k75 : Ck := { P := Tryz.prog, ι := iota, slots := [0, 2, 3, 4, 8, 17], cells := [1], ntmps := 21, pureF := pureF }
theorem ok75 : funOk k75 Tryz.f114 a75 = true := by kernel_rfl
noncomputable def k76 : Ck := { P := Tryz.prog, ι := iota, slots := [0], cells := [1, 2, 3], ntmps := 12, pureF := pureF }
theorem ok76 : funOk k76 Tryz.f115 a76 = true := by kernel_rfl
noncomputable def k77 : Ck := { P := Tryz.prog, ι := iota, slots := [0, 1, 4], cells := [2], ntmps := 9, pureF := pureF }
theorem ok77 : funOk k77 Tryz.f139 a77 = true := by kernel_rfl
noncomputable def k78 : Ck := { P := Tryz.prog, ι := iota, slots := [0, 1, 2, 6, 7, 8, 9, 10, 11, 17, 31], cells := [], ntmps := 49, pureF := pureF }
theorem ok78 : funOk k78 Tryz.f138 a78 = true := by kernel_rfl
noncomputable def k79 : Ck := { P := Tryz.prog, ι := iota, slots := [0, 1, 2, 6, 7, 8], cells := [], ntmps := 22, pureF := pureF }
theorem ok79 : funOk k79 Tryz.f140 a79 = true := by kernel_rfl
noncomputable def k80 : Ck := { P := Tryz.prog, ι := iota, slots := [0, 1, 4, 5, 6, 11, 12, 13, 16, 19], cells := [], ntmps := 20, pureF := pureF }
theorem ok80 : funOk k80 Tryz.f123 a80 = true := by kernel_rfl
noncomputable def k81 : Ck := { P := Tryz.prog, ι := iota, slots := [0, 1, 4, 5, 6, 11, 12, 13, 16, 19], cells := [], ntmps := 20, pureF := pureF }
theorem ok81 : funOk k81 Tryz.f124 a81 = true := by kernel_rfl
noncomputable def k82 : Ck := { P := Tryz.prog, ι := iota, slots := [0, 1, 2, 6, 7], cells := [], ntmps := 25, pureF := pureF }
theorem ok82 : funOk k82 Tryz.f141 a82 = true := by kernel_rfl
noncomputable def k86 : Ck := { P := Tryz.prog, ι := iota, slots := [0, 2], cells := [1], ntmps := 13, pureF := pureF }
theorem ok86 : funOk k86 Tryz.f129 a86 = true := by kernel_rfl
noncomputable def k87 : Ck := { P := Tryz.prog, ι := iota, slots := [0, 1, 6, 21, 38, 51], cells := [2, 3, 4, 5, 7, 8], ntmps := 56, pureF := pureF }
theorem ok87 : funOk k87 Tryz.f130 a87 = true := by kernel_rfl
noncomputable def k88 : Ck := { P := Tryz.prog, ι := iota, slots := [0], cells := [1, 2], ntmps := 9, pureF := pureF }
theorem ok88 : funOk k88 Tryz.f132 a88 = true := by kernel_rfl
noncomputable def k89 : Ck := { P := Tryz.prog, ι := iota, slots := [0, 1, 2, 3, 8, 9, 10, 17, 61, 105], cells := [7], ntmps := 143, pureF := pureF }
theorem ok89 : funOk k89 Tryz.f131 a89 = true := by kernel_rfl
noncomputable def k90 : Ck := { P := Tryz.prog, ι := iota, slots := [0, 1, 2, 6, 7, 77], cells := [8], ntmps := 123, pureF := pureF }
theorem ok90 : funOk k90 Tryz.f133 a90 = true := by kernel_rfl
noncomputable def k91 : Ck := { P := Tryz.prog, ι := iota, slots := [0, 1, 4, 5, 6, 13, 44, 75], cells := [], ntmps := 100, pureF := pureF }
theorem ok91 : funOk k91 Tryz.f134 a91 = true := by kernel_rfl
noncomputable def k92 : Ck := { P := Tryz.prog, ι := iota, slots := [0, 1], cells := [2, 3, 4, 5, 6], ntmps := 16, pureF := pureF }
theorem ok92 : funOk k92 Tryz.f135 a92 = true := by kernel_rfl
noncomputable def k93 : Ck := { P := Tryz.prog, ι := iota, slots := [0, 2, 3, 7, 15], cells := [], ntmps := 17, pureF := pureF }
theorem ok93 : funOk k93 Tryz.f136 a93 = true := by kernel_rfl
noncomputable def k94 : Ck := { P := Tryz.prog, ι := iota, slots := [0, 1], cells := [2, 4], ntmps := 13, pureF := pureF }
theorem ok94 : funOk k94 Tryz.f137 a94 = true := by kernel_rfl
noncomputable def k95 : Ck := { P := Tryz.prog, ι := iota, slots := [0, 2], cells := [], ntmps := 6, pureF := pureF }
theorem ok95 : funOk k95 Tryz.f145 a95 = true := by kernel_rfl
noncomputable def k96 : Ck := { P := Tryz.prog, ι := iota, slots := [0, 2], cells := [], ntmps := 6, pureF := pureF }
theorem ok96 : funOk k96 Tryz.f146 a96 = true := by kernel_rfl
noncomputable def k108 : Ck := { P := Tryz.prog, ι := iota, slots := [0], cells := [1, 2], ntmps := 6, pureF := pureF }
theorem ok108 : funOk k108 Tryz.f151 a108 = true := by kernel_rfl
noncomputable def k109 : Ck := { P := Tryz.prog, ι := iota, slots := [0, 4, 10], cells := [2, 3], ntmps := 22, pureF := pureF }
theorem ok109 : funOk k109 Tryz.f152 a109 = true := by kernel_rfl
noncomputable def k110 : Ck := { P := Tryz.prog, ι := iota, slots := [0, 1, 6, 7, 8, 14, 18, 42, 62], cells := [4, 5, 9, 10, 11, 12, 13], ntmps := 86, pureF := pureF }
theorem ok110 : funOk k110 Tryz.f153 a110 = true := by kernel_rfl
noncomputable def k111 : Ck := { P := Tryz.prog, ι := iota, slots := [0, 1], cells := [2, 3, 4], ntmps := 9, pureF := pureF }
theorem ok111 : funOk k111 Tryz.f154 a111 = true := by kernel_rfl
noncomputable def k117 : Ck := { P := Tryz.prog, ι := iota, slots := [0, 1, 6, 7, 16, 22], cells := [2, 3, 4, 5], ntmps := 43, pureF := pureF }
theorem ok117 : funOk k117 Tryz.f174 a117 = true := by kernel_rfl
noncomputable def k118 : Ck := { P := Tryz.prog, ι := iota, slots := [0, 1, 4, 5, 6, 7, 8, 16], cells := [], ntmps := 42, pureF := pureF }
theorem ok118 : funOk k118 Tryz.f175 a118 = true := by kernel_rfl
noncomputable def k119 : Ck := { P := Tryz.prog, ι := iota, slots := [0, 1, 5, 6, 7, 8, 9, 26], cells := [4], ntmps := 66, pureF := pureF }
theorem ok119 : funOk k119 Tryz.f176 a119 = true := by kernel_rfl
noncomputable def k121 : Ck := { P := Tryz.prog, ι := iota, slots := [0, 1, 4, 5, 7, 10, 19], cells := [6], ntmps := 34, pureF := pureF }
theorem ok121 : funOk k121 Tryz.f74 a121 = true := by kernel_rfl
noncomputable def k128 : Ck := { P := Tryz.prog, ι := iota, slots := [0, 2, 3, 7, 8, 9, 10], cells := [5], ntmps := 22, pureF := pureF }
theorem ok128 : funOk k128 Tryz.f85 a128 = true := by kernel_rfl
noncomputable def k160 : Ck := { P := Tryz.prog, ι := iota, slots := [0, 3, 7], cells := [2], ntmps := 19, pureF := pureF }
theorem ok160 : funOk k160 Tryz.f48 a160 = true := by kernel_rfl
noncomputable def k168 : Ck := { P := Tryz.prog, ι := iota, slots := [0, 1, 4, 5, 13, 21], cells := [2, 3], ntmps := 34, pureF := pureF }
theorem ok168 : funOk k168 Tryz.f88 a168 = true := by kernel_rfl
noncomputable def k211 : Ck := { P := Tryz.prog, ι := iota, slots := [0, 1, 2, 3, 4, 5, 6, 8, 10, 11, 12, 14, 16, 17], cells := [7, 13], ntmps := 163, pureF := pureF }
theorem ok211 : funOk k211 Tryz.f8 a211 = true := by kernel_rfl
noncomputable def k212 : Ck := { P := Tryz.prog, ι := iota, slots := [0, 1, 2, 3, 4, 5, 6, 29], cells := [], ntmps := 46, pureF := pureF }
theorem ok212 : funOk k212 Tryz.f9 a212 = true := by kernel_rfl
noncomputable def k213 : Ck := { P := Tryz.prog, ι := iota, slots := [0, 1, 2, 6, 7, 8, 10, 11, 12, 14, 15, 19, 23, 24, 25, 26, 51, 76], cells := [9], ntmps := 78, pureF := pureF }
theorem ok213 : funOk k213 Tryz.f10 a213 = true := by kernel_rfl
noncomputable def k214 : Ck := { P := Tryz.prog, ι := iota, slots := [0, 2, 3, 6, 7, 8, 9], cells := [5], ntmps := 25, pureF := pureF }
theorem ok214 : funOk k214 Tryz.f12 a214 = true := by kernel_rfl
noncomputable def k215 : Ck := { P := Tryz.prog, ι := iota, slots := [0, 2, 3, 4, 9], cells := [], ntmps := 30, pureF := pureF }
theorem ok215 : funOk k215 Tryz.f13 a215 = true := by kernel_rfl
noncomputable def k216 : Ck := { P := Tryz.prog, ι := iota, slots := [0, 1, 4, 5, 10, 14, 41], cells := [], ntmps := 42, pureF := pureF }
theorem ok216 : funOk k216 Tryz.f11 a216 = true := by kernel_rfl
noncomputable def k217 : Ck := { P := Tryz.prog, ι := iota, slots := [0, 1, 2, 3, 9, 10, 12, 13, 14, 15, 17, 23, 38, 39, 40, 41], cells := [8, 11], ntmps := 67, pureF := pureF }
theorem ok217 : funOk k217 Tryz.f14 a217 = true := by kernel_rfl
noncomputable def k219 : Ck := { P := Tryz.prog, ι := iota, slots := [0, 1, 4, 5], cells := [], ntmps := 13, pureF := pureF }
theorem ok219 : funOk k219 Tryz.f17 a219 = true := by kernel_rfl
noncomputable def k220 : Ck := { P := Tryz.prog, ι := iota, slots := [0, 1, 4, 5, 26, 31, 45], cells := [2, 3], ntmps := 46, pureF := pureF }
theorem ok220 : funOk k220 Tryz.f18 a220 = true := by kernel_rfl
noncomputable def k221 : Ck := { P := Tryz.prog, ι := iota, slots := [0, 1, 4, 5], cells := [], ntmps := 14, pureF := pureF }
theorem ok221 : funOk k221 Tryz.f20 a221 = true := by kernel_rfl
noncomputable def k222 : Ck := { P := Tryz.prog, ι := iota, slots := [0, 1, 4, 5, 6, 7, 8, 9, 10, 12, 13, 14, 15, 16, 47, 50], cells := [2, 3, 11], ntmps := 99, pureF := pureF }
theorem ok222 : funOk k222 Tryz.f4 a222 = true := by kernel_rfl
noncomputable def k223 : Ck := { P := Tryz.prog, ι := iota, slots := [0, 1, 3, 4, 5, 6, 7, 13, 33, 38, 53, 68, 78, 93], cells := [], ntmps := 113, pureF := pureF }
theorem ok223 : funOk k223 Tryz.f21 a223 = true := by kernel_rfl
noncomputable def k224 : Ck := { P := Tryz.prog, ι := iota, slots := [0, 1, 2, 6, 7, 8, 9, 10, 20, 24, 37, 67, 71, 89], cells := [], ntmps := 90, pureF := pureF }
theorem ok224 : funOk k224 Tryz.f22 a224 = true := by kernel_rfl
noncomputable def k225 : Ck := { P := Tryz.prog, ι := iota, slots := [0, 2, 3, 7, 34], cells := [], ntmps := 35, pureF := pureF }
theorem ok225 : funOk k225 Tryz.f23 a225 = true := by kernel_rfl
noncomputable def k226 : Ck := { P := Tryz.prog, ι := iota, slots := [0, 1, 4, 5, 6, 7, 10, 11, 15, 16, 17, 18, 29], cells := [9], ntmps := 40, pureF := pureF }
theorem ok226 : funOk k226 Tryz.f24 a226 = true := by kernel_rfl
noncomputable def k227 : Ck := { P := Tryz.prog, ι := iota, slots := [0, 1, 4, 5, 6, 7, 8, 9, 14, 28], cells := [], ntmps := 41, pureF := pureF }
theorem ok227 : funOk k227 Tryz.f25 a227 = true := by kernel_rfl
noncomputable def k233 : Ck := { P := Tryz.prog, ι := iota, slots := [0, 1, 2, 6, 7, 8, 9, 10, 15], cells := [], ntmps := 61, pureF := pureF }
theorem ok233 : funOk k233 Tryz.f34 a233 = true := by kernel_rfl
noncomputable def k234 : Ck := { P := Tryz.prog, ι := iota, slots := [0, 2], cells := [], ntmps := 13, pureF := pureF }
theorem ok234 : funOk k234 Tryz.f37 a234 = true := by kernel_rfl
noncomputable def k235 : Ck := { P := Tryz.prog, ι := iota, slots := [0, 1, 2, 8, 9, 15, 30], cells := [6, 7], ntmps := 50, pureF := pureF }
theorem ok235 : funOk k235 Tryz.f39 a235 = true := by kernel_rfl
noncomputable def k236 : Ck := { P := Tryz.prog, ι := iota, slots := [0, 1, 4], cells := [2, 3], ntmps := 15, pureF := pureF }
theorem ok236 : funOk k236 Tryz.f42 a236 = true := by kernel_rfl
noncomputable def k237 : Ck := { P := Tryz.prog, ι := iota, slots := [0, 1, 2, 6, 7, 14, 15, 16, 17, 18, 30], cells := [8, 9], ntmps := 32, pureF := pureF }
theorem ok237 : funOk k237 Tryz.f41 a237 = true := by kernel_rfl
noncomputable def k238 : Ck := { P := Tryz.prog, ι := iota, slots := [0, 1, 4, 5, 6, 9, 10, 13, 14, 15, 16, 27, 28, 29, 30, 31], cells := [8, 12], ntmps := 49, pureF := pureF }
theorem ok238 : funOk k238 Tryz.f46 a238 = true := by kernel_rfl
noncomputable def k239 : Ck := { P := Tryz.prog, ι := iota, slots := [0, 1, 4], cells := [], ntmps := 8, pureF := pureF }
theorem ok239 : funOk k239 Tryz.f47 a239 = true := by kernel_rfl
noncomputable def k241 : Ck := { P := Tryz.prog, ι := iota, slots := [0, 1, 2, 4, 5, 6, 7], cells := [], ntmps := 24, pureF := pureF }
theorem ok241 : funOk k241 Tryz.f51 a241 = true := by kernel_rfl
noncomputable def k242 : Ck := { P := Tryz.prog, ι := iota, slots := [0, 1, 4, 5, 6, 10, 19], cells := [], ntmps := 25, pureF := pureF }
theorem ok242 : funOk k242 Tryz.f54 a242 = true := by kernel_rfl
noncomputable def k243 : Ck := { P := Tryz.prog, ι := iota, slots := [0, 1, 4, 5, 6, 7, 8, 9, 14, 28], cells := [], ntmps := 38, pureF := pureF }
theorem ok243 : funOk k243 Tryz.f60 a243 = true := by kernel_rfl
noncomputable def k244 : Ck := { P := Tryz.prog, ι := iota, slots := [0, 1, 4, 5], cells := [], ntmps := 14, pureF := pureF }
theorem ok244 : funOk k244 Tryz.f64 a244 = true := by kernel_rfl
noncomputable def k246 : Ck := { P := Tryz.prog, ι := iota, slots := [0, 1, 4], cells := [3], ntmps := 8, pureF := pureF }
theorem ok246 : funOk k246 Tryz.f76 a246 = true := by kernel_rfl
noncomputable def k247 : Ck := { P := Tryz.prog, ι := iota, slots := [0, 1, 2, 6, 7, 8, 9, 14, 20, 33], cells := [], ntmps := 46, pureF := pureF }
theorem ok247 : funOk k247 Tryz.f77 a247 = true := by kernel_rfl
noncomputable def k248 : Ck := { P := Tryz.prog, ι := iota, slots := [0, 1, 4], cells := [2, 3], ntmps := 18, pureF := pureF }
theorem ok248 : funOk k248 Tryz.f87 a248 = true := by kernel_rfl
noncomputable def k249 : Ck := { P := Tryz.prog, ι := iota, slots := [0, 1, 2, 6, 7, 14, 15, 16, 17, 18, 30], cells := [8, 9], ntmps := 32, pureF := pureF }
theorem ok249 : funOk k249 Tryz.f86 a249 = true := by kernel_rfl
noncomputable def k250 : Ck := { P := Tryz.prog, ι := iota, slots := [0, 1], cells := [4], ntmps := 6, pureF := pureF }
theorem ok250 : funOk k250 Tryz.f91 a250 = true := by kernel_rfl
noncomputable def k252 : Ck := { P := Tryz.prog, ι := iota, slots := [0, 10, 11, 12, 13], cells := [2], ntmps := 25, pureF := pureF }
theorem ok252 : funOk k252 Tryz.f93 a252 = true := by kernel_rfl
noncomputable def k255 : Ck := { P := Tryz.prog, ι := iota, slots := [0, 1, 2, 6, 8, 9, 10, 11, 30], cells := [7], ntmps := 57, pureF := pureF }
theorem ok255 : funOk k255 Tryz.f101 a255 = true := by kernel_rfl
noncomputable def k279 : Ck := { P := Tryz.prog, ι := iota, slots := [0, 2], cells := [], ntmps := 13, pureF := pureF }
theorem ok279 : funOk k279 Tryz.f37 a279 = true := by kernel_rfl
noncomputable def k280 : Ck := { P := Tryz.prog, ι := iota, slots := [0, 1], cells := [4], ntmps := 8, pureF := pureF }
theorem ok280 : funOk k280 Tryz.f50 a280 = true := by kernel_rfl
noncomputable def k281 : Ck := { P := Tryz.prog, ι := iota, slots := [0, 1, 2, 8, 9, 15, 16, 17, 25, 26, 27], cells := [6, 7], ntmps := 43, pureF := pureF }
theorem ok281 : funOk k281 Tryz.f90 a281 = true := by kernel_rfl
theorem funs : ∀ g f, GP g = some f → ∃ k fn, k.P = Tryz.prog ∧ k.ι = iota ∧ k.pureF = pureF ∧ Tryz.prog.funcs[iota g]? = some fn ∧ funOk k fn f = true := by
  intro g f h
  unfold GP at h
  split at h
  · cases h; exact ⟨k1, Tryz.f40, rfl, rfl, rfl, Tryz.func40, ok1⟩
  · cases h; exact ⟨k2, Tryz.f61, rfl, rfl, rfl, Tryz.func61, ok2⟩
  · cases h; exact ⟨k3, Tryz.f62, rfl, rfl, rfl, Tryz.func62, ok3⟩
  · cases h; exact ⟨k4, Tryz.f44, rfl, rfl, rfl, Tryz.func44, ok4⟩
  · cases h; exact ⟨k5, Tryz.f63, rfl, rfl, rfl, Tryz.func63, ok5⟩
  · cases h; exact ⟨k6, Tryz.f45, rfl, rfl, rfl, Tryz.func45, ok6⟩
  · cases h; exact ⟨k7, Tryz.f75, rfl, rfl, rfl, Tryz.func75, ok7⟩
  · cases h; exact ⟨k8, Tryz.f52, rfl, rfl, rfl, Tryz.func52, ok8⟩
  · cases h; exact ⟨k10, Tryz.f19, rfl, rfl, rfl, Tryz.func19, ok10⟩
  · cases h; exact ⟨k13, Tryz.f58, rfl, rfl, rfl, Tryz.func58, ok13⟩
  · cases h; exact ⟨k14, Tryz.f26, rfl, rfl, rfl, Tryz.func26, ok14⟩
  · cases h; exact ⟨k16, Tryz.f27, rfl, rfl, rfl, Tryz.func27, ok16⟩
  · cases h; exact ⟨k17, Tryz.f28, rfl, rfl, rfl, Tryz.func28, ok17⟩
  · cases h; exact ⟨k19, Tryz.f29, rfl, rfl, rfl, Tryz.func29, ok19⟩
  · cases h; exact ⟨k21, Tryz.f38, rfl, rfl, rfl, Tryz.func38, ok21⟩
  · cases h; exact ⟨k22, Tryz.f85, rfl, rfl, rfl, Tryz.func85, ok22⟩
  · cases h; exact ⟨k26, Tryz.f43, rfl, rfl, rfl, Tryz.func43, ok26⟩
  · cases h; exact ⟨k27, Tryz.f36, rfl, rfl, rfl, Tryz.func36, ok27⟩
  · cases h; exact ⟨k28, Tryz.f78, rfl, rfl, rfl, Tryz.func78, ok28⟩
  · cases h; exact ⟨k29, Tryz.f66, rfl, rfl, rfl, Tryz.func66, ok29⟩
  · cases h; exact ⟨k30, Tryz.f81, rfl, rfl, rfl, Tryz.func81, ok30⟩
  · cases h; exact ⟨k31, Tryz.f70, rfl, rfl, rfl, Tryz.func70, ok31⟩
  · cases h; exact ⟨k32, Tryz.f83, rfl, rfl, rfl, Tryz.func83, ok32⟩
  · cases h; exact ⟨k33, Tryz.f82, rfl, rfl, rfl, Tryz.func82, ok33⟩
  · cases h; exact ⟨k34, Tryz.f84, rfl, rfl, rfl, Tryz.func84, ok34⟩
  · cases h; exact ⟨k35, Tryz.f49, rfl, rfl, rfl, Tryz.func49, ok35⟩
  · cases h; exact ⟨k36, Tryz.f35, rfl, rfl, rfl, Tryz.func35, ok36⟩
  · cases h; exact ⟨k37, Tryz.f59, rfl, rfl, rfl, Tryz.func59, ok37⟩
  · cases h; exact ⟨k38, Tryz.f65, rfl, rfl, rfl, Tryz.func65, ok38⟩
  · cases h; exact ⟨k40, Tryz.f56, rfl, rfl, rfl, Tryz.func56, ok40⟩
  · cases h; exact ⟨k41, Tryz.f67, rfl, rfl, rfl, Tryz.func67, ok41⟩
  · cases h; exact ⟨k42, Tryz.f68, rfl, rfl, rfl, Tryz.func68, ok42⟩
  · cases h; exact ⟨k43, Tryz.f69, rfl, rfl, rfl, Tryz.func69, ok43⟩
  · cases h; exact ⟨k45, Tryz.f71, rfl, rfl, rfl, Tryz.func71, ok45⟩
  · cases h; exact ⟨k47, Tryz.f79, rfl, rfl, rfl, Tryz.func79, ok47⟩
  · cases h; exact ⟨k48, Tryz.f80, rfl, rfl, rfl, Tryz.func80, ok48⟩
  · cases h; exact ⟨k49, Tryz.f98, rfl, rfl, rfl, Tryz.func98, ok49⟩
  · cases h; exact ⟨k50, Tryz.f102, rfl, rfl, rfl, Tryz.func102, ok50⟩
  · cases h; exact ⟨k51, Tryz.f104, rfl, rfl, rfl, Tryz.func104, ok51⟩
  · cases h; exact ⟨k52, Tryz.f103, rfl, rfl, rfl, Tryz.func103, ok52⟩
  · cases h; exact ⟨k53, Tryz.f105, rfl, rfl, rfl, Tryz.func105, ok53⟩
  · cases h; exact ⟨k54, Tryz.f89, rfl, rfl, rfl, Tryz.func89, ok54⟩
  · cases h; exact ⟨k55, Tryz.f107, rfl, rfl, rfl, Tryz.func107, ok55⟩
  · cases h; exact ⟨k57, Tryz.f97, rfl, rfl, rfl, Tryz.func97, ok57⟩
  · cases h; exact ⟨k58, Tryz.f95, rfl, rfl, rfl, Tryz.func95, ok58⟩
  · cases h; exact ⟨k61, Tryz.f53, rfl, rfl, rfl, Tryz.func53, ok61⟩
  · cases h; exact ⟨k62, Tryz.f100, rfl, rfl, rfl, Tryz.func100, ok62⟩
  · cases h; exact ⟨k63, Tryz.f111, rfl, rfl, rfl, Tryz.func111, ok63⟩
  · cases h; exact ⟨k64, Tryz.f112, rfl, rfl, rfl, Tryz.func112, ok64⟩
  · cases h; exact ⟨k65, Tryz.f116, rfl, rfl, rfl, Tryz.func116, ok65⟩
  · cases h; exact ⟨k66, Tryz.f117, rfl, rfl, rfl, Tryz.func117, ok66⟩
  · cases h; exact ⟨k67, Tryz.f118, rfl, rfl, rfl, Tryz.func118, ok67⟩
  · cases h; exact ⟨k68, Tryz.f108, rfl, rfl, rfl, Tryz.func108, ok68⟩
  · cases h; exact ⟨k69, Tryz.f119, rfl, rfl, rfl, Tryz.func119, ok69⟩
  · cases h; exact ⟨k74, Tryz.f113, rfl, rfl, rfl, Tryz.func113, ok74⟩
  · cases h; exact ⟨k75, Tryz.f114, rfl, rfl, rfl, Tryz.func114, ok75⟩
  · cases h; exact ⟨k76, Tryz.f115, rfl, rfl, rfl, Tryz.func115, ok76⟩
  · cases h; exact ⟨k77, Tryz.f139, rfl, rfl, rfl, Tryz.func139, ok77⟩
  · cases h; exact ⟨k78, Tryz.f138, rfl, rfl, rfl, Tryz.func138, ok78⟩
  · cases h; exact ⟨k79, Tryz.f140, rfl, rfl, rfl, Tryz.func140, ok79⟩
  · cases h; exact ⟨k80, Tryz.f123, rfl, rfl, rfl, Tryz.func123, ok80⟩
  · cases h; exact ⟨k81, Tryz.f124, rfl, rfl, rfl, Tryz.func124, ok81⟩
  · cases h; exact ⟨k82, Tryz.f141, rfl, rfl, rfl, Tryz.func141, ok82⟩
  · cases h; exact ⟨k86, Tryz.f129, rfl, rfl, rfl, Tryz.func129, ok86⟩
  · cases h; exact ⟨k87, Tryz.f130, rfl, rfl, rfl, Tryz.func130, ok87⟩
  · cases h; exact ⟨k88, Tryz.f132, rfl, rfl, rfl, Tryz.func132, ok88⟩
  · cases h; exact ⟨k89, Tryz.f131, rfl, rfl, rfl, Tryz.func131, ok89⟩
  · cases h; exact ⟨k90, Tryz.f133, rfl, rfl, rfl, Tryz.func133, ok90⟩
  · cases h; exact ⟨k91, Tryz.f134, rfl, rfl, rfl, Tryz.func134, ok91⟩
  · cases h; exact ⟨k92, Tryz.f135, rfl, rfl, rfl, Tryz.func135, ok92⟩
  · cases h; exact ⟨k93, Tryz.f136, rfl, rfl, rfl, Tryz.func136, ok93⟩
  · cases h; exact ⟨k94, Tryz.f137, rfl, rfl, rfl, Tryz.func137, ok94⟩
  · cases h; exact ⟨k95, Tryz.f145, rfl, rfl, rfl, Tryz.func145, ok95⟩
  · cases h; exact ⟨k96, Tryz.f146, rfl, rfl, rfl, Tryz.func146, ok96⟩
  · cases h; exact ⟨k108, Tryz.f151, rfl, rfl, rfl, Tryz.func151, ok108⟩
  · cases h; exact ⟨k109, Tryz.f152, rfl, rfl, rfl, Tryz.func152, ok109⟩
  · cases h; exact ⟨k110, Tryz.f153, rfl, rfl, rfl, Tryz.func153, ok110⟩
  · cases h; exact ⟨k111, Tryz.f154, rfl, rfl, rfl, Tryz.func154, ok111⟩
  · cases h; exact ⟨k117, Tryz.f174, rfl, rfl, rfl, Tryz.func174, ok117⟩
  · cases h; exact ⟨k118, Tryz.f175, rfl, rfl, rfl, Tryz.func175, ok118⟩
  · cases h; exact ⟨k119, Tryz.f176, rfl, rfl, rfl, Tryz.func176, ok119⟩
  · cases h; exact ⟨k121, Tryz.f74, rfl, rfl, rfl, Tryz.func74, ok121⟩
  · cases h; exact ⟨k128, Tryz.f85, rfl, rfl, rfl, Tryz.func85, ok128⟩
  · cases h; exact ⟨k160, Tryz.f48, rfl, rfl, rfl, Tryz.func48, ok160⟩
  · cases h; exact ⟨k168, Tryz.f88, rfl, rfl, rfl, Tryz.func88, ok168⟩
  · cases h; exact ⟨k211, Tryz.f8, rfl, rfl, rfl, Tryz.func8, ok211⟩
  · cases h; exact ⟨k212, Tryz.f9, rfl, rfl, rfl, Tryz.func9, ok212⟩
  · cases h; exact ⟨k213, Tryz.f10, rfl, rfl, rfl, Tryz.func10, ok213⟩
  · cases h; exact ⟨k214, Tryz.f12, rfl, rfl, rfl, Tryz.func12, ok214⟩
  · cases h; exact ⟨k215, Tryz.f13, rfl, rfl, rfl, Tryz.func13, ok215⟩
  · cases h; exact ⟨k216, Tryz.f11, rfl, rfl, rfl, Tryz.func11, ok216⟩
  · cases h; exact ⟨k217, Tryz.f14, rfl, rfl, rfl, Tryz.func14, ok217⟩
  · cases h; exact ⟨k219, Tryz.f17, rfl, rfl, rfl, Tryz.func17, ok219⟩
  · cases h; exact ⟨k220, Tryz.f18, rfl, rfl, rfl, Tryz.func18, ok220⟩
  · cases h; exact ⟨k221, Tryz.f20, rfl, rfl, rfl, Tryz.func20, ok221⟩
  · cases h; exact ⟨k222, Tryz.f4, rfl, rfl, rfl, Tryz.func4, ok222⟩
  · cases h; exact ⟨k223, Tryz.f21, rfl, rfl, rfl, Tryz.func21, ok223⟩
  · cases h; exact ⟨k224, Tryz.f22, rfl, rfl, rfl, Tryz.func22, ok224⟩
  · cases h; exact ⟨k225, Tryz.f23, rfl, rfl, rfl, Tryz.func23, ok225⟩
  · cases h; exact ⟨k226, Tryz.f24, rfl, rfl, rfl, Tryz.func24, ok226⟩
  · cases h; exact ⟨k227, Tryz.f25, rfl, rfl, rfl, Tryz.func25, ok227⟩
  · cases h; exact ⟨k233, Tryz.f34, rfl, rfl, rfl, Tryz.func34, ok233⟩
  · cases h; exact ⟨k234, Tryz.f37, rfl, rfl, rfl, Tryz.func37, ok234⟩
  · cases h; exact ⟨k235, Tryz.f39, rfl, rfl, rfl, Tryz.func39, ok235⟩
  · cases h; exact ⟨k236, Tryz.f42, rfl, rfl, rfl, Tryz.func42, ok236⟩
  · cases h; exact ⟨k237, Tryz.f41, rfl, rfl, rfl, Tryz.func41, ok237⟩
  · cases h; exact ⟨k238, Tryz.f46, rfl, rfl, rfl, Tryz.func46, ok238⟩
  · cases h; exact ⟨k239, Tryz.f47, rfl, rfl, rfl, Tryz.func47, ok239⟩
  · cases h; exact ⟨k241, Tryz.f51, rfl, rfl, rfl, Tryz.func51, ok241⟩
  · cases h; exact ⟨k242, Tryz.f54, rfl, rfl, rfl, Tryz.func54, ok242⟩
  · cases h; exact ⟨k243, Tryz.f60, rfl, rfl, rfl, Tryz.func60, ok243⟩
  · cases h; exact ⟨k244, Tryz.f64, rfl, rfl, rfl, Tryz.func64, ok244⟩
  · cases h; exact ⟨k246, Tryz.f76, rfl, rfl, rfl, Tryz.func76, ok246⟩
  · cases h; exact ⟨k247, Tryz.f77, rfl, rfl, rfl, Tryz.func77, ok247⟩
  · cases h; exact ⟨k248, Tryz.f87, rfl, rfl, rfl, Tryz.func87, ok248⟩
  · cases h; exact ⟨k249, Tryz.f86, rfl, rfl, rfl, Tryz.func86, ok249⟩
  · cases h; exact ⟨k250, Tryz.f91, rfl, rfl, rfl, Tryz.func91, ok250⟩
  · cases h; exact ⟨k252, Tryz.f93, rfl, rfl, rfl, Tryz.func93, ok252⟩
  · cases h; exact ⟨k255, Tryz.f101, rfl, rfl, rfl, Tryz.func101, ok255⟩
  · cases h; exact ⟨k279, Tryz.f37, rfl, rfl, rfl, Tryz.func37, ok279⟩
  · cases h; exact ⟨k280, Tryz.f50, rfl, rfl, rfl, Tryz.func50, ok280⟩
  · cases h; exact ⟨k281, Tryz.f90, rfl, rfl, rfl, Tryz.func90, ok281⟩
  · cases h
theorem pureModes : (pures.all fun g => match GP g with | some f => (match f.mode with | .iso => true | _ => false) | none => true) = true := by kernel_rfl
theorem pureMode (g : Nat) (hg : pureF g = true) (f : AFun) (h : GP g = some f) : f.mode = .iso := by
  have := (List.all_eq_true.1 pureModes) g (by simpa [pureF] using hg)
  rw [h] at this
  simp only at this
  split at this <;> simp_all
theorem no56 (g : Nat) (hg : pureF g = true) : g ≠ 56 := by
  rintro rfl
  have : pureF 56 = false := by kernel_rfl
  rw [this] at hg; cases hg
theorem tied : Tied Tryz.prog iota pureF E1 GP where
  funs := funs
  pureG := fun g hg => ⟨pureMode g hg, fun args H H2 _ => if_neg (no56 g hg)⟩
  pureE := fun g hg args H r H' b h => by
    rw [show E1 g args H = none from if_neg (no56 g hg)] at h; cases h
  keepE := E1_keeps
  soundE := E1_sound (ρ := Go.Proofs.Tryz.keysA_ren) (ρ' := Go.Proofs.Tryz.sortedA_ren) { Go.Proofs.Tryz.keysA with } Go.Proofs.Tryz.sortedA Go.Proofs.Tryz.sortsA (enters_of Tryz.func106 (by kernel_rfl) rfl) (enters_of Tryz.func121 (by kernel_rfl) rfl) (enters_of Tryz.func122 (by kernel_rfl) rfl) rfl rfl
theorem once : OnceS Tryz.prog (iota 253) where
  ty := ⟨21, by kernel_rfl⟩
  enters := enters_of Tryz.func92 (by kernel_rfl) rfl
  done := fun a d fv w h0 h => do_done a d h0 fv w h
  first := do_first
theorem tied2 : Tied Tryz.prog iota pureF E2 GP := E2_tied tied once (by kernel_rfl)
theorem own : ownKnob Tryz.prog.godebug = none := by kernel_rfl
theorem laidOut : laidOutB Tryz.prog = true := by kernel_rfl
end Go.Proofs.YtejciamannpljaaGreat
