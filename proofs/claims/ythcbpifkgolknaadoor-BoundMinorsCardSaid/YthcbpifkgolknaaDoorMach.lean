/-
  The program of this seat and the machine's code: every function fits.
-/
import Derived.Test.YthcbpifkgolknaaDoorRows
import Derived.Test.YthcbpifkgolknaaDoorRf6
import Derived.Test.YthcbpifkgolknaaDoorRf7
import Derived.LaidHandle
import Derived.LaidLaws
import Derived.LaidMore
import Derived.OpenShut
import Derived.WideShapes
import Derived.Test.YthcbpifkgolknaaDoorM01
import Derived.Test.YthcbpifkgolknaaDoorM02
import Derived.Test.YthcbpifkgolknaaDoorM03
import Derived.Test.YthcbpifkgolknaaDoorM04
import Derived.Test.YthcbpifkgolknaaDoorM05
import Derived.Test.YthcbpifkgolknaaDoorM06
import Derived.Test.YthcbpifkgolknaaDoorM07
import Derived.Test.YthcbpifkgolknaaDoorM08
import Derived.Test.YthcbpifkgolknaaDoorM09
import Derived.KernelRfl
namespace Go.Proofs.YthcbpifkgolknaaDoor
open Tor
set_option maxRecDepth 100000
def iota : Env := ⟨fun g => ([0, 0, 0, 0, 0, 0, 0, 0, 0, 0, 0, 0, 0, 0, 20, 0, 0, 0, 0, 0, 0, 0, 0, 0, 0, 0, 0, 0, 0, 0, 0, 0, 53, 0, 0, 0, 0, 13, 27, 0, 0, 21, 18, 19, 0, 0, 0, 0, 40, 45, 0, 0, 0, 56, 62, 0, 0, 42, 0, 0, 0, 0, 0, 63, 64, 0, 0, 69, 68, 70, 0, 0, 0, 0, 0, 0, 0, 0, 0, 81, 79, 80, 82, 0, 73, 0, 0, 0, 46, 0, 0, 0, 0, 0, 0, 98, 99, 0, 0, 0, 0, 0, 0, 0, 0, 0, 61, 92, 0, 0, 0, 25, 0, 103, 104, 0, 0, 0, 0, 0, 0, 0, 0, 0, 0, 0, 0, 0, 0, 3, 8, 9, 10, 11, 12, 14, 15, 16, 4, 17, 22, 24, 23, 26, 28, 5, 6, 29, 31, 30, 32, 7, 33, 34, 35, 36, 38, 37, 39, 41, 43, 44, 47, 49, 51, 50, 52, 54, 55, 57, 59, 58, 60, 48, 65, 67, 71, 72, 66, 76, 75, 74, 77, 78, 83, 84, 85, 86, 87, 88, 89, 90, 91, 93, 95, 96, 97, 101, 100, 102, 105, 106, 94, 108, 109, 110, 107, 111, 112, 113, 0, 0, 0, 0, 0, 0, 0, 0, 0, 0, 0, 0, 0, 0, 0, 0, 0, 0, 0, 0, 0, 0, 0, 0, 0, 0, 0, 0, 0, 0, 0, 0, 0, 0, 0, 0, 0, 0, 0, 0, 0, 0, 0, 0, 0, 0, 0, 0, 0, 0, 0, 0, 0, 0, 0, 0, 0, 0, 0, 0, 0, 0, 0, 0, 0, 0, 0, 0, 0, 0, 0, 0, 23, 1, 2] : List Nat).getD g 0, tzG⟩
def pures : List Nat := [0, 1, 2, 3, 4, 5, 6, 7, 8, 9, 10, 11, 12, 13, 14, 15, 16, 17, 18, 19, 20, 21, 22, 23, 24, 25, 26, 27, 28, 29, 30, 31, 32, 35, 36, 37, 39, 40, 41, 42, 43, 44, 45, 46, 47, 48, 49, 50, 53, 57, 58, 59, 60, 62, 63, 64, 65, 67, 68, 69, 70, 71, 72, 73, 74, 75, 76, 77, 79, 80, 81, 82, 83, 84, 85, 87, 88, 92, 93, 94, 95, 96, 97, 98, 99, 100, 101, 102, 103, 104, 105, 106, 107, 110, 111, 112, 113, 114, 115, 116, 118, 119, 120, 121, 122, 123, 124, 126, 127, 129, 130, 131, 132, 133, 134, 135, 136, 137, 138, 139, 140, 141, 143, 144, 145, 146, 147, 148, 149, 150, 151, 152, 153, 154, 155, 156, 157, 158, 159, 160, 161, 162, 163, 164, 165, 166, 167, 168, 169, 170, 172, 173, 174, 175, 176, 178, 179, 180, 181, 182, 183, 184, 186, 187, 188, 189, 190, 191, 192, 193, 194, 195, 196, 197, 198, 199, 200, 201, 202, 203, 204, 205, 206, 207, 208, 209, 210, 211, 212, 213, 214, 215, 216, 217, 218, 219, 220, 221, 222, 223, 224, 225, 226, 227, 228, 229, 230, 231, 232, 233, 234, 235, 236, 237, 239, 240, 242, 243, 244, 245, 246, 247, 248, 249, 250, 251, 254, 255, 256, 257, 258, 259, 260, 261, 262, 263, 264, 265, 266, 267, 268, 269, 270, 271, 272, 273, 274, 275, 276, 277, 278, 283, 284]
def pureF : Nat → Bool := fun g => pures.contains g
noncomputable def k14 : Ck := { P := Tryd.prog, ι := iota, slots := [0, 3, 7], cells := [2], ntmps := 19, pureF := pureF }
theorem ok14 : funOk k14 Tryd.f20 a14 = true := by kernel_rfl
noncomputable def k32 : Ck := { P := Tryd.prog, ι := iota, slots := [0, 1, 5, 6, 7, 8, 9, 10, 20, 21, 22, 23, 28, 29, 30, 31], cells := [2, 3, 4], ntmps := 77, pureF := pureF }
theorem ok32 : funOk k32 Tryd.f53 a32 = true := by kernel_rfl
noncomputable def k37 : Ck := { P := Tryd.prog, ι := iota, slots := [0, 1, 4], cells := [2, 3], ntmps := 26, pureF := pureF }
theorem ok37 : funOk k37 Tryd.f13 a37 = true := by kernel_rfl
noncomputable def k38 : Ck := { P := Tryd.prog, ι := iota, slots := [0, 1, 5, 17], cells := [4], ntmps := 31, pureF := pureF }
theorem ok38 : funOk k38 Tryd.f27 a38 = true := by kernel_rfl
noncomputable def k41 : Ck := { P := Tryd.prog, ι := iota, slots := [0, 1, 5, 6, 7, 8, 22, 33, 49], cells := [2, 3, 4], ntmps := 81, pureF := pureF }
theorem ok41 : funOk k41 Tryd.f21 a41 = true := by kernel_rfl
noncomputable def k43 : Ck := { P := Tryd.prog, ι := iota, slots := [0, 2, 6, 8], cells := [1], ntmps := 9, pureF := pureF }
theorem ok43 : funOk k43 Tryd.f19 a43 = true := by kernel_rfl
noncomputable def k48 : Ck := { P := Tryd.prog, ι := iota, slots := [0, 2, 3, 8], cells := [1], ntmps := 11, pureF := pureF }
theorem ok48 : funOk k48 Tryd.f40 a48 = true := by kernel_rfl
noncomputable def k49 : Ck := { P := Tryd.prog, ι := iota, slots := [0, 1, 9, 22], cells := [2, 3, 4], ntmps := 39, pureF := pureF }
theorem ok49 : funOk k49 Tryd.f45 a49 = true := by kernel_rfl
noncomputable def k53 : Ck := { P := Tryd.prog, ι := iota, slots := [0, 1, 5, 19], cells := [2, 3, 4], ntmps := 42, pureF := pureF }
theorem ok53 : funOk k53 Tryd.f56 a53 = true := by kernel_rfl
noncomputable def k54 : Ck := { P := Tryd.prog, ι := iota, slots := [0, 1, 5, 9, 15], cells := [4], ntmps := 28, pureF := pureF }
theorem ok54 : funOk k54 Tryd.f62 a54 = true := by kernel_rfl
noncomputable def k57 : Ck := { P := Tryd.prog, ι := iota, slots := [0, 1, 4, 5, 10, 20, 31], cells := [], ntmps := 41, pureF := pureF }
theorem ok57 : funOk k57 Tryd.f42 a57 = true := by kernel_rfl
noncomputable def k63 : Ck := { P := Tryd.prog, ι := iota, slots := [0, 1, 4, 5, 6, 7, 22, 28, 39], cells := [], ntmps := 55, pureF := pureF }
theorem ok63 : funOk k63 Tryd.f63 a63 = true := by kernel_rfl
noncomputable def k64 : Ck := { P := Tryd.prog, ι := iota, slots := [0, 1, 4, 5, 6, 7, 8, 13, 26, 35], cells := [], ntmps := 44, pureF := pureF }
theorem ok64 : funOk k64 Tryd.f64 a64 = true := by kernel_rfl
noncomputable def k67 : Ck := { P := Tryd.prog, ι := iota, slots := [0, 1, 4, 5, 6, 7, 8, 13, 24, 25, 26, 31], cells := [], ntmps := 56, pureF := pureF }
theorem ok67 : funOk k67 Tryd.f69 a67 = true := by kernel_rfl
noncomputable def k68 : Ck := { P := Tryd.prog, ι := iota, slots := [0, 1, 4, 5, 6, 7, 14, 20, 33], cells := [], ntmps := 35, pureF := pureF }
theorem ok68 : funOk k68 Tryd.f68 a68 = true := by kernel_rfl
noncomputable def k69 : Ck := { P := Tryd.prog, ι := iota, slots := [0, 1, 4, 5, 6, 7, 8, 13, 14, 15, 20], cells := [], ntmps := 40, pureF := pureF }
theorem ok69 : funOk k69 Tryd.f70 a69 = true := by kernel_rfl
noncomputable def k79 : Ck := { P := Tryd.prog, ι := iota, slots := [0, 1, 2, 6, 7, 8], cells := [], ntmps := 22, pureF := pureF }
theorem ok79 : funOk k79 Tryd.f81 a79 = true := by kernel_rfl
noncomputable def k80 : Ck := { P := Tryd.prog, ι := iota, slots := [0, 1, 4, 5, 6, 11, 12, 13, 16, 19], cells := [], ntmps := 20, pureF := pureF }
theorem ok80 : funOk k80 Tryd.f79 a80 = true := by kernel_rfl
noncomputable def k81 : Ck := { P := Tryd.prog, ι := iota, slots := [0, 1, 4, 5, 6, 11, 12, 13, 16, 19], cells := [], ntmps := 20, pureF := pureF }
theorem ok81 : funOk k81 Tryd.f80 a81 = true := by kernel_rfl
noncomputable def k82 : Ck := { P := Tryd.prog, ι := iota, slots := [0, 1, 2, 6, 7], cells := [], ntmps := 25, pureF := pureF }
theorem ok82 : funOk k82 Tryd.f82 a82 = true := by kernel_rfl
noncomputable def k84 : Ck := { P := Tryd.prog, ι := iota, slots := [0, 2], cells := [], ntmps := 8, pureF := pureF }
theorem ok84 : funOk k84 Tryd.f73 a84 = true := by kernel_rfl
noncomputable def k88 : Ck := { P := Tryd.prog, ι := iota, slots := [0], cells := [1, 2], ntmps := 9, pureF := pureF }
theorem ok88 : funOk k88 Tryd.f46 a88 = true := by kernel_rfl
noncomputable def k95 : Ck := { P := Tryd.prog, ι := iota, slots := [0, 2], cells := [], ntmps := 6, pureF := pureF }
theorem ok95 : funOk k95 Tryd.f98 a95 = true := by kernel_rfl
noncomputable def k96 : Ck := { P := Tryd.prog, ι := iota, slots := [0, 2], cells := [], ntmps := 6, pureF := pureF }
theorem ok96 : funOk k96 Tryd.f99 a96 = true := by kernel_rfl
noncomputable def k106 : Ck := { P := Tryd.prog, ι := iota, slots := [0, 2, 4, 8], cells := [], ntmps := 19, pureF := pureF }
theorem ok106 : funOk k106 Tryd.f61 a106 = true := by kernel_rfl
noncomputable def k107 : Ck := { P := Tryd.prog, ι := iota, slots := [0, 2, 4, 8, 14], cells := [], ntmps := 25, pureF := pureF }
theorem ok107 : funOk k107 Tryd.f92 a107 = true := by kernel_rfl
noncomputable def k111 : Ck := { P := Tryd.prog, ι := iota, slots := [0, 1], cells := [2, 3, 4], ntmps := 9, pureF := pureF }
theorem ok111 : funOk k111 Tryd.f25 a111 = true := by kernel_rfl
noncomputable def k130 : Ck := { P := Tryd.prog, ι := iota, slots := [0, 4, 6, 8, 10, 12, 13, 14], cells := [1, 2, 3, 5, 7, 9, 11], ntmps := 177, pureF := pureF }
theorem ok130 : funOk k130 Tryd.f8 a130 = true := by kernel_rfl
noncomputable def k131 : Ck := { P := Tryd.prog, ι := iota, slots := [0, 1], cells := [2, 4], ntmps := 19, pureF := pureF }
theorem ok131 : funOk k131 Tryd.f9 a131 = true := by kernel_rfl
noncomputable def k132 : Ck := { P := Tryd.prog, ι := iota, slots := [0, 3, 8], cells := [1, 2], ntmps := 13, pureF := pureF }
theorem ok132 : funOk k132 Tryd.f10 a132 = true := by kernel_rfl
noncomputable def k134 : Ck := { P := Tryd.prog, ι := iota, slots := [0, 3, 5, 8, 10, 11, 12, 13, 16, 17, 18, 19, 24], cells := [1, 2, 7], ntmps := 58, pureF := pureF }
theorem ok134 : funOk k134 Tryd.f12 a134 = true := by kernel_rfl
noncomputable def k135 : Ck := { P := Tryd.prog, ι := iota, slots := [0, 1, 5, 9], cells := [2, 4], ntmps := 20, pureF := pureF }
theorem ok135 : funOk k135 Tryd.f14 a135 = true := by kernel_rfl
noncomputable def k139 : Ck := { P := Tryd.prog, ι := iota, slots := [0, 1, 2, 7, 8, 9, 10, 11, 17, 23, 34], cells := [3, 6], ntmps := 58, pureF := pureF }
theorem ok139 : funOk k139 Tryd.f17 a139 = true := by kernel_rfl
noncomputable def k143 : Ck := { P := Tryd.prog, ι := iota, slots := [0, 1, 4], cells := [2, 3], ntmps := 9, pureF := pureF }
theorem ok143 : funOk k143 Tryd.f26 a143 = true := by kernel_rfl
noncomputable def k145 : Ck := { P := Tryd.prog, ι := iota, slots := [0, 2, 3, 7, 8, 9, 10, 13, 24, 30, 45, 48, 53, 96], cells := [1, 4, 5, 6, 11, 12], ntmps := 115, pureF := pureF }
theorem ok145 : funOk k145 Tryd.f5 a145 = true := by kernel_rfl
noncomputable def k149 : Ck := { P := Tryd.prog, ι := iota, slots := [0, 1, 4, 5, 10, 14, 25], cells := [], ntmps := 26, pureF := pureF }
theorem ok149 : funOk k149 Tryd.f30 a149 = true := by kernel_rfl
noncomputable def k154 : Ck := { P := Tryd.prog, ι := iota, slots := [0, 1, 4, 7, 9, 10, 11, 12], cells := [3, 5], ntmps := 22, pureF := pureF }
theorem ok154 : funOk k154 Tryd.f35 a154 = true := by kernel_rfl
noncomputable def k156 : Ck := { P := Tryd.prog, ι := iota, slots := [0, 2, 3, 5, 7, 8, 9, 10], cells := [1], ntmps := 22, pureF := pureF }
theorem ok156 : funOk k156 Tryd.f38 a156 = true := by kernel_rfl
noncomputable def k157 : Ck := { P := Tryd.prog, ι := iota, slots := [0, 9, 10, 11, 12, 29], cells := [2, 3, 5, 6], ntmps := 34, pureF := pureF }
theorem ok157 : funOk k157 Tryd.f37 a157 = true := by kernel_rfl
noncomputable def k159 : Ck := { P := Tryd.prog, ι := iota, slots := [0, 2, 3, 8], cells := [1], ntmps := 20, pureF := pureF }
theorem ok159 : funOk k159 Tryd.f41 a159 = true := by kernel_rfl
noncomputable def k160 : Ck := { P := Tryd.prog, ι := iota, slots := [0, 3, 7], cells := [2], ntmps := 19, pureF := pureF }
theorem ok160 : funOk k160 Tryd.f43 a160 = true := by kernel_rfl
noncomputable def k164 : Ck := { P := Tryd.prog, ι := iota, slots := [0, 1], cells := [2, 4], ntmps := 10, pureF := pureF }
theorem ok164 : funOk k164 Tryd.f51 a164 = true := by kernel_rfl
noncomputable def k165 : Ck := { P := Tryd.prog, ι := iota, slots := [0, 1, 4], cells := [2, 3], ntmps := 11, pureF := pureF }
theorem ok165 : funOk k165 Tryd.f50 a165 = true := by kernel_rfl
noncomputable def k167 : Ck := { P := Tryd.prog, ι := iota, slots := [0, 3, 4, 13, 18, 52], cells := [1, 2, 5, 6, 7, 9, 10], ntmps := 55, pureF := pureF }
theorem ok167 : funOk k167 Tryd.f54 a167 = true := by kernel_rfl
noncomputable def k168 : Ck := { P := Tryd.prog, ι := iota, slots := [0, 1, 4, 5, 13, 21], cells := [2, 3], ntmps := 34, pureF := pureF }
theorem ok168 : funOk k168 Tryd.f55 a168 = true := by kernel_rfl
noncomputable def k169 : Ck := { P := Tryd.prog, ι := iota, slots := [0], cells := [2, 3], ntmps := 12, pureF := pureF }
theorem ok169 : funOk k169 Tryd.f57 a169 = true := by kernel_rfl
noncomputable def k170 : Ck := { P := Tryd.prog, ι := iota, slots := [0, 1, 4], cells := [2, 3], ntmps := 8, pureF := pureF }
theorem ok170 : funOk k170 Tryd.f59 a170 = true := by kernel_rfl
noncomputable def k171 : Ck := { P := Tryd.prog, ι := iota, slots := [0, 1, 4], cells := [], ntmps := 14, pureF := pureF }
theorem ok171 : funOk k171 Tryd.f58 a171 = true := by kernel_rfl
noncomputable def k175 : Ck := { P := Tryd.prog, ι := iota, slots := [0, 1, 6, 7, 8, 14, 36, 50], cells := [2, 3, 4, 5, 9, 10], ntmps := 55, pureF := pureF }
theorem ok175 : funOk k175 Tryd.f67 a175 = true := by kernel_rfl
noncomputable def k176 : Ck := { P := Tryd.prog, ι := iota, slots := [0, 1, 5, 10], cells := [4], ntmps := 15, pureF := pureF }
theorem ok176 : funOk k176 Tryd.f71 a176 = true := by kernel_rfl
noncomputable def k177 : Ck := { P := Tryd.prog, ι := iota, slots := [0, 1, 2, 3, 4, 10, 11, 12, 13, 14, 15, 16, 17, 18, 19, 20, 25, 32, 39, 56, 75, 80, 97, 125], cells := [], ntmps := 148, pureF := pureF }
theorem ok177 : funOk k177 Tryd.f72 a177 = true := by kernel_rfl
noncomputable def k182 : Ck := { P := Tryd.prog, ι := iota, slots := [0, 1, 4, 5, 6, 7, 8, 15], cells := [], ntmps := 35, pureF := pureF }
theorem ok182 : funOk k182 Tryd.f77 a182 = true := by kernel_rfl
noncomputable def k183 : Ck := { P := Tryd.prog, ι := iota, slots := [0], cells := [1, 2], ntmps := 15, pureF := pureF }
theorem ok183 : funOk k183 Tryd.f78 a183 = true := by kernel_rfl
noncomputable def k184 : Ck := { P := Tryd.prog, ι := iota, slots := [0, 1], cells := [4], ntmps := 9, pureF := pureF }
theorem ok184 : funOk k184 Tryd.f83 a184 = true := by kernel_rfl
noncomputable def k185 : Ck := { P := Tryd.prog, ι := iota, slots := [0, 1, 2, 3, 8, 9, 14, 34], cells := [], ntmps := 53, pureF := pureF }
theorem ok185 : funOk k185 Tryd.f84 a185 = true := by kernel_rfl
noncomputable def k194 : Ck := { P := Tryd.prog, ι := iota, slots := [0, 2, 4], cells := [], ntmps := 8, pureF := pureF }
theorem ok194 : funOk k194 Tryd.f95 a194 = true := by kernel_rfl
noncomputable def k195 : Ck := { P := Tryd.prog, ι := iota, slots := [0, 1, 4, 5, 6, 7, 8, 16], cells := [], ntmps := 42, pureF := pureF }
theorem ok195 : funOk k195 Tryd.f96 a195 = true := by kernel_rfl
noncomputable def k197 : Ck := { P := Tryd.prog, ι := iota, slots := [0, 1, 2, 14], cells := [3, 4, 5, 6], ntmps := 21, pureF := pureF }
theorem ok197 : funOk k197 Tryd.f101 a197 = true := by kernel_rfl
noncomputable def k198 : Ck := { P := Tryd.prog, ι := iota, slots := [0, 1, 2, 3, 9, 11, 12, 13], cells := [6, 8], ntmps := 28, pureF := pureF }
theorem ok198 : funOk k198 Tryd.f100 a198 = true := by kernel_rfl
noncomputable def k202 : Ck := { P := Tryd.prog, ι := iota, slots := [0, 2, 4, 10, 11, 12, 13, 15, 19, 24], cells := [], ntmps := 29, pureF := pureF }
theorem ok202 : funOk k202 Tryd.f94 a202 = true := by kernel_rfl
noncomputable def k206 : Ck := { P := Tryd.prog, ι := iota, slots := [0, 1, 4, 5, 6, 26, 28, 29, 30, 38], cells := [], ntmps := 40, pureF := pureF }
theorem ok206 : funOk k206 Tryd.f107 a206 = true := by kernel_rfl
noncomputable def k208 : Ck := { P := Tryd.prog, ι := iota, slots := [0, 1, 2, 6, 7, 11, 16], cells := [], ntmps := 26, pureF := pureF }
theorem ok208 : funOk k208 Tryd.f112 a208 = true := by kernel_rfl
noncomputable def k209 : Ck := { P := Tryd.prog, ι := iota, slots := [0, 1, 2, 6], cells := [], ntmps := 12, pureF := pureF }
theorem ok209 : funOk k209 Tryd.f113 a209 = true := by kernel_rfl
theorem funs : ∀ g f, GP g = some f → ∃ k fn, k.P = Tryd.prog ∧ k.ι = iota ∧ k.pureF = pureF ∧ Tryd.prog.funcs[iota g]? = some fn ∧ funOk k fn f = true := by
  intro g f h
  unfold GP at h
  split at h
  · cases h; exact ⟨k14, Tryd.f20, rfl, rfl, rfl, Tryd.func20, ok14⟩
  · cases h; exact ⟨k32, Tryd.f53, rfl, rfl, rfl, Tryd.func53, ok32⟩
  · cases h; exact ⟨k37, Tryd.f13, rfl, rfl, rfl, Tryd.func13, ok37⟩
  · cases h; exact ⟨k38, Tryd.f27, rfl, rfl, rfl, Tryd.func27, ok38⟩
  · cases h; exact ⟨k41, Tryd.f21, rfl, rfl, rfl, Tryd.func21, ok41⟩
  · cases h; exact ⟨k43, Tryd.f19, rfl, rfl, rfl, Tryd.func19, ok43⟩
  · cases h; exact ⟨k48, Tryd.f40, rfl, rfl, rfl, Tryd.func40, ok48⟩
  · cases h; exact ⟨k49, Tryd.f45, rfl, rfl, rfl, Tryd.func45, ok49⟩
  · cases h; exact ⟨k53, Tryd.f56, rfl, rfl, rfl, Tryd.func56, ok53⟩
  · cases h; exact ⟨k54, Tryd.f62, rfl, rfl, rfl, Tryd.func62, ok54⟩
  · cases h; exact ⟨k57, Tryd.f42, rfl, rfl, rfl, Tryd.func42, ok57⟩
  · cases h; exact ⟨k63, Tryd.f63, rfl, rfl, rfl, Tryd.func63, ok63⟩
  · cases h; exact ⟨k64, Tryd.f64, rfl, rfl, rfl, Tryd.func64, ok64⟩
  · cases h; exact ⟨k67, Tryd.f69, rfl, rfl, rfl, Tryd.func69, ok67⟩
  · cases h; exact ⟨k68, Tryd.f68, rfl, rfl, rfl, Tryd.func68, ok68⟩
  · cases h; exact ⟨k69, Tryd.f70, rfl, rfl, rfl, Tryd.func70, ok69⟩
  · cases h; exact ⟨k79, Tryd.f81, rfl, rfl, rfl, Tryd.func81, ok79⟩
  · cases h; exact ⟨k80, Tryd.f79, rfl, rfl, rfl, Tryd.func79, ok80⟩
  · cases h; exact ⟨k81, Tryd.f80, rfl, rfl, rfl, Tryd.func80, ok81⟩
  · cases h; exact ⟨k82, Tryd.f82, rfl, rfl, rfl, Tryd.func82, ok82⟩
  · cases h; exact ⟨k84, Tryd.f73, rfl, rfl, rfl, Tryd.func73, ok84⟩
  · cases h; exact ⟨k88, Tryd.f46, rfl, rfl, rfl, Tryd.func46, ok88⟩
  · cases h; exact ⟨k95, Tryd.f98, rfl, rfl, rfl, Tryd.func98, ok95⟩
  · cases h; exact ⟨k96, Tryd.f99, rfl, rfl, rfl, Tryd.func99, ok96⟩
  · cases h; exact ⟨k106, Tryd.f61, rfl, rfl, rfl, Tryd.func61, ok106⟩
  · cases h; exact ⟨k107, Tryd.f92, rfl, rfl, rfl, Tryd.func92, ok107⟩
  · cases h; exact ⟨k111, Tryd.f25, rfl, rfl, rfl, Tryd.func25, ok111⟩
  · cases h; exact ⟨k130, Tryd.f8, rfl, rfl, rfl, Tryd.func8, ok130⟩
  · cases h; exact ⟨k131, Tryd.f9, rfl, rfl, rfl, Tryd.func9, ok131⟩
  · cases h; exact ⟨k132, Tryd.f10, rfl, rfl, rfl, Tryd.func10, ok132⟩
  · cases h; exact ⟨k134, Tryd.f12, rfl, rfl, rfl, Tryd.func12, ok134⟩
  · cases h; exact ⟨k135, Tryd.f14, rfl, rfl, rfl, Tryd.func14, ok135⟩
  · cases h; exact ⟨k139, Tryd.f17, rfl, rfl, rfl, Tryd.func17, ok139⟩
  · cases h; exact ⟨k143, Tryd.f26, rfl, rfl, rfl, Tryd.func26, ok143⟩
  · cases h; exact ⟨k145, Tryd.f5, rfl, rfl, rfl, Tryd.func5, ok145⟩
  · cases h; exact ⟨k149, Tryd.f30, rfl, rfl, rfl, Tryd.func30, ok149⟩
  · cases h; exact ⟨k154, Tryd.f35, rfl, rfl, rfl, Tryd.func35, ok154⟩
  · cases h; exact ⟨k156, Tryd.f38, rfl, rfl, rfl, Tryd.func38, ok156⟩
  · cases h; exact ⟨k157, Tryd.f37, rfl, rfl, rfl, Tryd.func37, ok157⟩
  · cases h; exact ⟨k159, Tryd.f41, rfl, rfl, rfl, Tryd.func41, ok159⟩
  · cases h; exact ⟨k160, Tryd.f43, rfl, rfl, rfl, Tryd.func43, ok160⟩
  · cases h; exact ⟨k164, Tryd.f51, rfl, rfl, rfl, Tryd.func51, ok164⟩
  · cases h; exact ⟨k165, Tryd.f50, rfl, rfl, rfl, Tryd.func50, ok165⟩
  · cases h; exact ⟨k167, Tryd.f54, rfl, rfl, rfl, Tryd.func54, ok167⟩
  · cases h; exact ⟨k168, Tryd.f55, rfl, rfl, rfl, Tryd.func55, ok168⟩
  · cases h; exact ⟨k169, Tryd.f57, rfl, rfl, rfl, Tryd.func57, ok169⟩
  · cases h; exact ⟨k170, Tryd.f59, rfl, rfl, rfl, Tryd.func59, ok170⟩
  · cases h; exact ⟨k171, Tryd.f58, rfl, rfl, rfl, Tryd.func58, ok171⟩
  · cases h; exact ⟨k175, Tryd.f67, rfl, rfl, rfl, Tryd.func67, ok175⟩
  · cases h; exact ⟨k176, Tryd.f71, rfl, rfl, rfl, Tryd.func71, ok176⟩
  · cases h; exact ⟨k177, Tryd.f72, rfl, rfl, rfl, Tryd.func72, ok177⟩
  · cases h; exact ⟨k182, Tryd.f77, rfl, rfl, rfl, Tryd.func77, ok182⟩
  · cases h; exact ⟨k183, Tryd.f78, rfl, rfl, rfl, Tryd.func78, ok183⟩
  · cases h; exact ⟨k184, Tryd.f83, rfl, rfl, rfl, Tryd.func83, ok184⟩
  · cases h; exact ⟨k185, Tryd.f84, rfl, rfl, rfl, Tryd.func84, ok185⟩
  · cases h; exact ⟨k194, Tryd.f95, rfl, rfl, rfl, Tryd.func95, ok194⟩
  · cases h; exact ⟨k195, Tryd.f96, rfl, rfl, rfl, Tryd.func96, ok195⟩
  · cases h; exact ⟨k197, Tryd.f101, rfl, rfl, rfl, Tryd.func101, ok197⟩
  · cases h; exact ⟨k198, Tryd.f100, rfl, rfl, rfl, Tryd.func100, ok198⟩
  · cases h; exact ⟨k202, Tryd.f94, rfl, rfl, rfl, Tryd.func94, ok202⟩
  · cases h; exact ⟨k206, Tryd.f107, rfl, rfl, rfl, Tryd.func107, ok206⟩
  · cases h; exact ⟨k208, Tryd.f112, rfl, rfl, rfl, Tryd.func112, ok208⟩
  · cases h; exact ⟨k209, Tryd.f113, rfl, rfl, rfl, Tryd.func113, ok209⟩
  · cases h
theorem pureModes : (pures.all fun g => match GP g with | some f => (match f.mode with | .iso => true | _ => false) | none => true) = true := by kernel_rfl
theorem pureMode (g : Nat) (hg : pureF g = true) (f : AFun) (h : GP g = some f) : f.mode = .iso := by
  have := (List.all_eq_true.1 pureModes) g (by simpa [pureF] using hg)
  rw [h] at this
  simp only at this
  split at this <;> simp_all
theorem tabs : TabS Tryd.prog iota where
  glob := tzG_in
  blk := tzG_blk
  cells := tzG_cells
  enters g hg := by
    simp only [List.mem_cons, List.not_mem_nil, or_false] at hg
    rcases hg with rfl | rfl | rfl | rfl | rfl | rfl | rfl | rfl
    · exact enters_of Tryd.func111 (by kernel_rfl) rfl
    · exact enters_of Tryd.func66 (by kernel_rfl) rfl
    · exact enters_of Tryd.func29 (by kernel_rfl) rfl
    · exact enters_of Tryd.func33 (by kernel_rfl) rfl
    · exact enters_of Tryd.func43 (by kernel_rfl) rfl
    · exact enters_of Tryd.func51 (by kernel_rfl) rfl
    · exact enters_of Tryd.func50 (by kernel_rfl) rfl
    · exact enters_of Tryd.func94 (by kernel_rfl) rfl
  tz n w hn hQ := (tz111 n w hQ).mono fun e w' h => ⟨by rw [h.1, tz_eq n hn], h.2⟩
  bef hP m w hQ := before66 primeF hP m w hQ
  pri hP m k w hQ := (primes29 primeF hP m k w hQ).mono fun e w' ⟨v, h1, h2, h3⟩ => ⟨v, _, h1, h2, h3⟩
  need hP b hN m w A hA sb ab lb cb hI hQ := (needed33 primeF hP b hN m w A hA sb ab lb cb hI hQ).mono fun e w' ⟨v, h1, h2, h3⟩ => ⟨v, _, h1, h2, h3⟩
theorem tied : Tied Tryd.prog iota pureF ET GP := ET_tied tabs funs pureMode
theorem tiedB : Tied Tryd.prog iota pureF EB GP := EB_tied tabs tied
theorem gTab : Tryd.prog.globalNamed "math/bits.deBruijn64tab" = some 0 := by kernel_rfl
theorem tTab : (Tryd.prog.globals[0]?).map (·.type) = some 136 := by kernel_rfl
noncomputable def laidL : List (String × DataW Unit) := [("math/bits.deBruijn64tab", Rows.laid_math_bits_deBruijn64tab)]
theorem laidTab : (Rows.laid_math_bits_deBruijn64tab : DataW Unit) = .agg (tzTab.map fun n => .lit (.int .u8 n)) := rfl
theorem door_met (os : Os) (args : Array Value) : laidMetH Tryd.prog laidL ((World.doorLaid Tryd.prog 400 os).forCall (fun _ _ => 0) ⟨#[], args, []⟩).memory :=
  laidMetH_of_parts (laidMet_of_run' 8 (by kernel_rfl) (by kernel_rfl)) (by kernel_rfl)
theorem of_laid {W : World} (h : laidMetH Tryd.prog laidL W) : QTw W := by
  rw [MakeChecks.laidMetH_plain _ _ _ (by kernel_rfl)] at h
  obtain ⟨ps, ⟨g0, t0, cs0, f0, p0, q0, hg0, ht0, hv0, hd0, _, _⟩, _, _⟩ := h
  obtain rfl := Option.some.inj (gTab.symm.trans hg0)
  obtain rfl := Option.some.inj (tTab.symm.trans ht0)
  obtain ⟨xs, m1, e, hx1, hlen, hn3, hel⟩ := DataW.trod_array Tryd.underlying136 hd0
  have c1 : Tryd.prog.cellsOf 5 = 1 := by kernel_rfl
  rw [laidTab] at hx1
  simp only [Prod.mk.injEq, DataW.agg.injEq] at hx1
  intro i hi
  have h0 := hel i hi
  have hxi : xs[i]? = some xs[i] := List.getElem?_eq_getElem (by omega)
  rw [hxi, c1] at h0
  obtain ⟨k, e1, e2, _⟩ := DataW.trod_int Tryd.underlying5 h0
  have hk : k = tzTab.getD i 0 := by
    have := congrArg (fun l => l[i]?) hx1.1
    simp only [List.getElem?_map, hxi, Option.map_some, e2] at this
    rw [List.getElem?_eq_getElem (show i < tzTab.length from hi), Option.map_some] at this
    rw [List.getD_eq_getElem?_getD, List.getElem?_eq_getElem (show i < tzTab.length from hi), Option.getD_some]
    simpa using this.symm
  subst hk
  have hc := World.var?_cell hg0 hv0 i
  rw [hc]
  have h1 : cs0.toList[i]? = some (.int .u8 (tzTab.getD i 0)) := by
    have := congrArg (fun l => l[0]?) e1
    simpa using this
  simpa using h1
theorem own : ownKnob Tryd.prog.godebug = none := by kernel_rfl
theorem laidOut : laidOutB Tryd.prog = true := by kernel_rfl
end Go.Proofs.YthcbpifkgolknaaDoor
