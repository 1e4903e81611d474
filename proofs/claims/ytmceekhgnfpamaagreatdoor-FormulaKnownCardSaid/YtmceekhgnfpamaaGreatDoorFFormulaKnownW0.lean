/- What the functions that this law reaches return: part 0. No condition. -/
import Derived.Test.YtmceekhgnfpamaaGreatDoorB05
set_option linter.all false
namespace Go.Proofs.YtmceekhgnfpamaaGreatDoor
open Go Go.QL FoT
set_option maxHeartbeats 12800000
set_option maxRecDepth 100000
def exG : FormT := ⟨[[97], [98], [99]], [⟨1, 0, 0, 0⟩, ⟨1, 1, 0, 0⟩, ⟨1, 2, 0, 0⟩, ⟨4, 0, 0, 0⟩, ⟨1, 0, 0, 0⟩, ⟨1, 1, 0, 0⟩, ⟨5, 0, 0, 0⟩, ⟨5, 0, 0, 0⟩, ⟨4, 0, 0, 0⟩]⟩
theorem zpV : zbH [32, 97, 32, 45, 32, 40, 32, 98, 45, 99, 32, 41, 42, 40, 97, 42, 98, 41] = (exG, 0, 0) := by decide +kernel
theorem zpY : zbH [97, 42, 40, 98] = (zdw, 4, 6) := by decide +kernel
theorem zpX : zbH [97, 32, 98] = (zdw, 2, 6) := by decide +kernel
theorem zn1 : zd0 exG = ([97, 45, 40, 98, 45, 99, 41, 42, 40, 97, 42, 98, 41], 0) := by decide +kernel
theorem zn2 : z8 exF [⟨0, 8388607⟩, ⟨0, 8388607⟩] = ((z8 exF [⟨0, 8388607⟩, ⟨0, 8388607⟩]).1, 6, 170) := by decide +kernel
theorem zq3 : zaj 1 0 = (⟨4194304, 1⟩, 0) := by decide +kernel
theorem zpW : zaj 0 9 = (⟨0, 0⟩, 0) := by decide +kernel
attribute [local irreducible] ACall FnC
theorem zn0 : FnC Tryz.prog 7 [] (bv true) := by
 have r1 := zbK [32, 97, 32, 45, 32, 40, 32, 98, 45, 99, 32, 41, 42, 40, 97, 42, 98, 41]
 rw [zpV] at r1
 have r2 := zbK [97, 42, 40, 98]
 rw [zpY] at r2
 have r3 := zbK [97, 32, 98]
 rw [zpX] at r3
 have w1 := zcX exG
 rw [zn1] at w1
 have g1 := zeg exF [⟨0, 8388607⟩, ⟨0, 8388607⟩]
 obtain ⟨rg, hrg⟩ : ∃ rg, z8 exF [⟨0, 8388607⟩, ⟨0, 8388607⟩] = (rg, 6, 170) := ⟨_, zn2⟩
 rw [hrg] at g1
 have c1 := zg0 exF
 rw [zm4] at c1
 have f1 := zei 1 0
 rw [if_pos (by decide), zq3] at f1
 have f2 := zei 0 9
 rw [if_pos (by decide), zpW] at f2
 have fx := zo7
 have fr := zo6
 have sp := zln
 have aw := zcK
 dsimp only at r1 r2 r3 w1 g1 c1 f1 f2
 refine zj hTt Tryz.func7 rfl (by kernel_rfl) (res := [.tmp 0]) rfl Tryz.ntmps7 (by simp) fun w0 K0 => ?_
 dsimp only [entry]
 repeat' first | refine zd ?_ | ((first | refine zi ?_ | refine zb hTt ?_ | refine zl hTt hMix (id := 9) 69 false [0, 1, 3, 7, 15, 31, 63, 127, 255, 511, 1023, 2047, 4095, 8191, 16383, 32767, 65535, 131071, 262143, 524287, 1048575, 2097151, 4194303, 8388607, 16777215, 33554431, 67108863, 134217727, 268435455, 536870911, 1073741823, 2147483647, 4294967295, 8589934591, 17179869183, 34359738367, 68719476735, 137438953471, 274877906943, 549755813887, 1099511627775, 2199023255551, 4398046511103, 8796093022207, 17592186044415, 35184372088831, 70368744177663, 140737488355327, 281474976710655, 562949953421311, 1125899906842623, 2251799813685247, 4503599627370495, 9007199254740991, 18014398509481983, 36028797018963967, 72057594037927935, 144115188075855871, 288230376151711743, 576460752303423487, 1152921504606846975, 1152921504606846975, 3458764513820540927, 8070450532247928831, 18446744073709551615, 36893488147419103231, 73786976294838206463, 147573952589676412927, 147573952589676412927, 590295810358705651711, 1180591620717411303423, 2361183241434822606847, 4722366482869645213695, 9444732965739290427391, 18889465931478580854783] (by kernel_rfl) rfl rfl (by kernel_rfl) ?_ | ((refine ⟨_, (fx).call rfl rfl, ?_⟩); (rintro _ _ ⟨rfl, rfl⟩)) | ((refine ⟨_, ((sp _ _)).call rfl rfl, ?_⟩); (rintro _ _ ⟨rfl, rfl⟩)) | refine ⟨_, fun _ _ => (fr).call rfl rfl, ?_⟩ | ((refine ⟨_, (r1).call rfl rfl, ?_⟩); (rintro _ _ ⟨rfl, rfl⟩)) | ((refine ⟨_, (r2).call rfl rfl, ?_⟩); (rintro _ _ ⟨rfl, rfl⟩)) | ((refine ⟨_, (r3).call rfl rfl, ?_⟩); (rintro _ _ ⟨rfl, rfl⟩)) | ((refine ⟨_, (w1).call rfl rfl, ?_⟩); (rintro _ _ ⟨rfl, rfl⟩)) | ((refine ⟨_, (g1).call rfl rfl, ?_⟩); (rintro _ _ ⟨rfl, rfl⟩)) | ((refine ⟨_, (c1).call rfl rfl, ?_⟩); (rintro _ _ ⟨rfl, rfl⟩)) | ((refine ⟨_, (f1).call rfl rfl, ?_⟩); (rintro _ _ ⟨rfl, rfl⟩)) | ((refine ⟨_, (f2).call rfl rfl, ?_⟩); (rintro _ _ ⟨rfl, rfl⟩)) | refine ⟨_, fun _ => (aw).call rfl rfl, ?_⟩ | refine And.intro ?_ ?_; focus (first | (exact trivial) | (exact fun h => h) | (exact zu) | (exact zw) | (exact zx) | (exact zE) | (exact fun h _ => h) | fail) | refine ⟨_, ze ⟨by decide, rfl⟩, ?_⟩ | refine andA ?_ | fail); conv => whnf) | fail
 have hq : ((bs [97, 45, 40, 98, 45, 99, 41, 42, 40, 97, 42, 98, 41]).toList == (ByteArray.mk #[97, 45, 40, 98, 45, 99, 41, 42, 40, 97, 42, 98, 41]).toList) = true := (zdf [97, 45, 40, 98, 45, 99, 41, 42, 40, 97, 42, 98, 41] [97, 45, 40, 98, 45, 99, 41, 42, 40, 97, 42, 98, 41]).trans (by decide)
 refine congrArg some (congrArg bv (?_ : (_ : Bool) = true))
 rw [hq]
 rfl
end Go.Proofs.YtmceekhgnfpamaaGreatDoor
