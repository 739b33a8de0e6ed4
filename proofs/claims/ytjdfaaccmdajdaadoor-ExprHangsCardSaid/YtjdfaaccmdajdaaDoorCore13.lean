/- ExprHangs: contracts out of the kit's shelf, laid here. VARIABLES: a known pair of numbers. (of the seat YtjdfaaccmdajdaaDoor) -/
import Derived.Test.YtjdfaaccmdajdaaDoorCore12
import Derived.Test.YtjdfaaccmdajdaaDoorProg
import Derived.KernelRfl
import Derived.Shelf.Strings.OnBuilder
import Derived.Shelf.Small.Strs
import Derived.Shelf.Sort.Plain
import Derived.Shelf.Slices.CompactS
import Derived.Shelf.Slices.In.SortNone
import Derived.ChangeSame
import Derived.ChangeAt
import Derived.Below
namespace Go.Proofs.YtjdfaaccmdajdaaDoor
open Go Go.Sc
set_option maxRecDepth 100000
def tyL : List Nat := [1000000, 35, 57, 1000003, 9, 1000005, 1000006, 1000007, 53, 50, 48, 46, 44, 45, 43]
def tkL : List Nat := [2000000, 2000001, 2000002, 2000003, 2000004, 2000005, 2000006, 2000007, 2000008, 4, 2000010, 2000011, 2000012, 2000013, 2000014, 2000015, 2000016, 2000017, 2000018, 2000019, 2000020, 2000021, 2000022, 2000023, 2000024, 2000025, 2000026, 2000027, 2000028, 2000029, 2000030, 2000031, 2000032, 2000033, 2000034, 1, 2000036, 2000037, 2000038, 2000039, 2000040, 2000041, 2000042, 14, 12, 13, 11, 2000047, 10, 2000049, 9, 2000051, 2000052, 8, 2000054, 2000055, 2000056, 2, 2000058, 2000059, 2000060, 2000061, 2000062, 2000063, 2000064, 2000065, 2000066, 2000067, 2000068, 2000069, 2000070, 2000071, 2000072, 2000073, 2000074, 2000075, 2000076, 2000077, 2000078, 2000079, 2000080, 2000081, 2000082, 2000083, 2000084, 2000085, 2000086, 2000087, 2000088, 2000089, 2000090, 2000091, 2000092, 2000093, 2000094, 2000095, 2000096, 2000097, 2000098, 2000099, 2000100, 2000101, 2000102, 2000103, 2000104, 2000105, 2000106, 2000107, 2000108, 2000109, 2000110, 2000111, 2000112, 2000113, 2000114, 2000115, 2000116, 2000117, 2000118, 2000119, 2000120, 2000121, 2000122, 2000123, 2000124, 2000125, 2000126, 2000127, 2000128, 2000129, 2000130, 2000131, 2000132, 2000133, 2000134, 2000135, 2000136, 2000137, 2000138, 2000139, 2000140, 2000141, 2000142]
def fnL : List Nat := [1000000, 47, 1000002, 1000003, 55, 56, 60, 59, 61, 63, 62, 65, 64, 66, 67, 68, 69, 70, 71, 72, 73, 46, 74, 54, 75, 58, 1000026, 1000027, 1000028, 1000029, 1000030, 1000031, 1000032, 1000033, 1000034, 1000035, 1000036, 1000037, 1000038, 1000039, 1000040, 1000041, 1000042, 1000043, 1000044, 1000045, 1000046, 1000047, 1000048, 1000049, 1000050, 1000051, 1000052, 1000053, 1000054, 1000055, 1000056, 1000057, 1000058, 1000059, 1000060, 1000061, 1000062, 1000063, 1000064, 1000065, 1000066, 1000067, 1000068, 1000069, 1000070, 1000071, 1000072, 1000073, 1000074, 1000075, 1000076, 1000077, 1000078, 1000079, 1000080, 1000081, 1000082, 1000083, 1000084, 1000085, 1000086, 1000087, 1000088, 1000089, 1000090, 1000091, 1000092, 1000093, 1000094, 1000095, 1000096, 1000097, 1000098, 1000099, 1000100, 1000101, 1000102, 1000103, 1000104, 1000105, 1000106, 1000107, 1000108, 1000109, 1000110, 1000111, 1000112, 1000113, 1000114, 1000115, 1000116, 1000117, 96, 97, 98, 99, 100, 102, 101, 1000125, 4, 13, 1000128, 1000129, 1000130, 1000131, 1000132, 10, 11, 12, 1000136, 1000137, 1000138, 23, 22, 1000141, 1000142, 30, 31, 34, 94, 109, 95, 108, 107, 106, 104, 105, 93, 5, 1000156, 8, 9, 1000159, 1000160, 24, 19, 18, 21, 20, 17, 28, 29, 1000169, 1000170, 1000171, 1000172, 1000173, 1000174, 1000175, 1000176, 1000177, 1000178, 1000179, 1000180, 6, 1000182, 1000183, 7, 1000185, 1000186, 1000187, 1000188, 15, 14, 1000191, 16, 25, 26, 27, 1000196, 33, 32, 1000199, 1000200, 35, 36, 37, 38, 39, 40, 41, 42, 43, 44, 45, 1000212, 48, 49, 50, 51, 52, 53, 76, 1000220, 57, 1000222, 3]
def fkL : List Nat := [2000000, 2000001, 2000002, 223, 126, 155, 181, 184, 157, 158, 133, 134, 135, 127, 190, 189, 192, 166, 163, 162, 165, 164, 140, 139, 161, 193, 194, 195, 167, 168, 143, 144, 198, 197, 145, 201, 202, 203, 204, 205, 206, 207, 208, 209, 210, 211, 21, 1, 213, 214, 215, 216, 217, 218, 23, 4, 5, 221, 25, 7, 6, 8, 10, 9, 12, 11, 13, 14, 15, 16, 17, 18, 19, 20, 22, 24, 219, 2000077, 2000078, 2000079, 2000080, 2000081, 2000082, 2000083, 2000084, 2000085, 2000086, 2000087, 2000088, 2000089, 2000090, 2000091, 2000092, 154, 146, 148, 118, 119, 120, 121, 122, 124, 123, 2000103, 152, 153, 151, 150, 149, 147, 2000110, 2000111, 2000112, 2000113, 2000114, 2000115, 2000116]
def gnL : List Nat := [1000000, 1, 2, 1000003, 1000004, 1000005, 0]
def gkL : List Nat := [6, 1, 2]
def E : Env := { ty := fun k => tyL.getD k 3000000, tk := fun t => tkL.getD t 3000000, fn := fun k => fnL.getD k 3000000, fk := fun f => fkL.getD f 3000000, gn := fun k => gnL.getD k 3000000, gk := fun g => gkL.getD g 3000000, gl := fun _ => none }
theorem b_keep_ExprHangs (a0 a1 a2 a3 : AV) (H : AH) (R : Kt) : bodyW E Tryd.prog Tryd.f3 (.seq none .leaf (.seq none (.seq none .leaf (.two (.seq none .leaf .leaf) .leaf)) (.seq none .leaf (.seq none (.seq none .leaf (.two (.seq none .leaf .leaf) .leaf)) (.seq none .leaf (.seq none .leaf (.seq none (.seq none .leaf (.one (.loop [13, 14, 15] (.seq none (.seq none .leaf (.two .leaf .leaf)) (.seq (some [13, 14]) (.one (.seq (some [13]) (.seq none .draw (.two .leaf .leaf)) (.seq none .draw (.two .leaf .leaf)))) .leaf))))) (.seq none (.seq none .leaf (.one (.loop [16] (.seq none (.seq none .leaf (.two .leaf .leaf)) (.seq none (.one (.seq none .draw (.two (.seq none .leaf .leaf) .leaf))) .leaf))))) (.seq none .leaf .leaf))))))))) [a0, a1, a2, a3] H R = F.keep_ExprHangs E Tryd.prog a0 a1 a2 a3 H R := by kernel_rfl
theorem b_expr_Parse (a0 : AV) (H : AH) (R : Kt) : bodyW E Tryd.prog Tryd.f4 (.seq none .leaf (.seq none (.seq none .leaf (.two (.seq none .leaf .leaf) .leaf)) (.seq none .leaf (.seq none .leaf (.seq none (.seq none .leaf (.two (.seq none .leaf .leaf) .leaf)) (.seq none (.seq none .leaf (.seq none .leaf (.two (.seq none .leaf .leaf) .leaf))) (.seq none .leaf .leaf))))))) [a0] H R = F.expr_Parse E Tryd.prog a0 H R := by kernel_rfl
theorem b_keep_says (H : AH) (R : Kt) : bodyW E Tryd.prog Tryd.f5 (.seq none .leaf (.seq none .leaf (.seq none .leaf .leaf))) [] H R = F.keep_says E Tryd.prog H R := by kernel_rfl
theorem b_expr_Names (a0 : AV) (H : AH) (R : Kt) : bodyW E Tryd.prog Tryd.f6 (.seq none .leaf (.seq none .leaf .leaf)) [a0] H R = F.expr_Names E Tryd.prog a0 H R := by kernel_rfl
theorem b_expr_Edges (a0 : AV) (H : AH) (R : Kt) : bodyW E Tryd.prog Tryd.f7 (.seq none .leaf (.seq none .leaf .leaf)) [a0] H R = F.expr_Edges E Tryd.prog a0 H R := by kernel_rfl
theorem b_keep_among (a0 : AV) (H : AH) (R : Kt) : bodyW E Tryd.prog Tryd.f8 (.seq none .leaf (.seq none .leaf .leaf)) [a0] H R = F.keep_among E Tryd.prog a0 H R := by kernel_rfl
theorem b_expr_Eval (a0 a1 a2 : AV) (H : AH) (R : Kt) : bodyW E Tryd.prog Tryd.f9 (.seq none .leaf (.seq none (.seq none .leaf (.one (.seq none .leaf (.two (.seq none .leaf (.seq none .leaf .leaf)) (.seq none .leaf (.two (.seq none .leaf (.seq none .leaf .leaf)) (.seq none .leaf (.two (.seq none .leaf (.seq none .leaf .leaf)) (.seq none .leaf (.two (.seq none .leaf (.seq none .leaf .leaf)) (.seq none .leaf (.two (.seq none .leaf (.seq none .leaf .leaf)) (.seq none .leaf (.two (.seq none .leaf (.seq none .leaf .leaf)) (.seq none .leaf (.two (.seq none .leaf (.seq none .leaf .leaf)) .leaf)))))))))))))))) (.seq none .leaf .leaf))) [a0, a1, a2] H R = F.expr_Eval E Tryd.prog a0 a1 a2 H R := by kernel_rfl
theorem b_pexpr_reader_or (a0 a1 : AV) (H : AH) (R : Kt) : bodyW E Tryd.prog Tryd.f10 (.seq none .leaf (.seq none .leaf (.seq none (.seq none .leaf (.two (.seq none .leaf .leaf) .leaf)) (.seq none (.seq none .leaf (.two (.seq none .leaf .leaf) .leaf)) (.seq none .leaf .leaf))))) [a0, a1] H R = F.pexpr_reader_or E Tryd.prog a0 a1 H R := by kernel_rfl
theorem b_pexpr_reader_blanks (a0 : AV) (H : AH) (R : Kt) : bodyW E Tryd.prog Tryd.f11 (.one (.loop [] (.seq none (.seq none .draw (.two .leaf .leaf)) (.one .leaf)))) [a0] H R = F.pexpr_reader_blanks E Tryd.prog a0 H R := by kernel_rfl
theorem b_pexpr_reader_fail (a0 a1 : AV) (H : AH) (R : Kt) : bodyW E Tryd.prog Tryd.f12 (.seq none .leaf (.seq none .leaf (.seq none .leaf .leaf))) [a0, a1] H R = F.pexpr_reader_fail E Tryd.prog a0 a1 H R := by kernel_rfl
theorem b_expr_Text (a0 : AV) (H : AH) (R : Kt) : bodyW E Tryd.prog Tryd.f13 (.seq none .leaf (.seq none (.seq none .leaf (.two (.seq none .leaf .leaf) .leaf)) (.seq none .leaf .leaf))) [a0] H R = F.expr_Text E Tryd.prog a0 H R := by kernel_rfl
theorem b_expr_sorted (a0 a1 : AV) (H : AH) (R : Kt) : bodyW E Tryd.prog Tryd.f14 (.seq none .leaf (.seq none .leaf (.seq none .leaf (.seq none .leaf (.seq none .leaf .leaf))))) [a0, a1] H R = F.expr_sorted E Tryd.prog a0 a1 H R := by kernel_rfl
theorem b_expr_Names_c1 (a0 : AV) (H : AH) (R : Kt) : bodyW E Tryd.prog Tryd.f15 (.seq none .leaf (.seq none (.seq none .leaf (.one (.seq none .leaf (.two (.seq none .leaf (.seq none .leaf .leaf)) (.seq none .leaf (.two (.seq none .leaf (.seq none .leaf .leaf)) (.seq none .leaf (.two (.seq none .leaf (.seq none .leaf .leaf)) .leaf)))))))) (.seq none .leaf .leaf))) [a0] H R = F.expr_Names_c1 E Tryd.prog a0 H R := by kernel_rfl
theorem b_expr_Edges_c1 (a0 : AV) (H : AH) (R : Kt) : bodyW E Tryd.prog Tryd.f16 (.seq none .leaf (.seq none (.seq none .leaf (.one (.seq none .leaf (.two (.seq none .leaf (.seq none .leaf .leaf)) (.seq none .leaf (.two (.seq none .leaf (.seq none .leaf .leaf)) .leaf)))))) (.seq none .leaf .leaf))) [a0] H R = F.expr_Edges_c1 E Tryd.prog a0 H R := by kernel_rfl
theorem b_keep_among_c1 (a0 a1 : AV) (H : AH) (R : Kt) : bodyW E Tryd.prog Tryd.f17 (.seq none .leaf (.seq none (.seq none .leaf (.one (.loop [4] (.seq none (.seq none .leaf (.two .leaf .leaf)) (.seq none (.one (.seq none .leaf (.two (.seq none .leaf .leaf) .leaf))) .leaf))))) (.seq none .leaf .leaf))) [a0, a1] H R = F.keep_among_c1 E Tryd.prog a0 a1 H R := by kernel_rfl
theorem b_slices_ContainsFunc_expr_And_expr_Expr (a0 a1 : AV) (H : AH) (R : Kt) : bodyW E Tryd.prog Tryd.f18 (.seq none .leaf (.seq none .leaf .leaf)) [a0, a1] H R = F.slices_ContainsFunc_expr_And_expr_Expr E Tryd.prog a0 a1 H R := by kernel_rfl
theorem b_expr_Eval_c1 (a0 a1 a2 : AV) (H : AH) (R : Kt) : bodyW E Tryd.prog Tryd.f19 (.seq none .leaf (.seq none .leaf .leaf)) [a0, a1, a2] H R = F.expr_Eval_c1 E Tryd.prog a0 a1 a2 H R := by kernel_rfl
theorem b_slices_ContainsFunc_expr_Or_expr_Expr (a0 a1 : AV) (H : AH) (R : Kt) : bodyW E Tryd.prog Tryd.f20 (.seq none .leaf (.seq none .leaf .leaf)) [a0, a1] H R = F.slices_ContainsFunc_expr_Or_expr_Expr E Tryd.prog a0 a1 H R := by kernel_rfl
theorem b_expr_Eval_c2 (a0 a1 a2 : AV) (H : AH) (R : Kt) : bodyW E Tryd.prog Tryd.f21 (.seq none .leaf (.seq none .leaf .leaf)) [a0, a1, a2] H R = F.expr_Eval_c2 E Tryd.prog a0 a1 a2 H R := by kernel_rfl
theorem b_pexpr_reader_several (a0 a1 a2 a3 : AV) (H : AH) (R : Kt) : bodyW E Tryd.prog Tryd.f22 (.seq none .leaf (.seq none .leaf (.one (.loop [10] (.one (.seq none .leaf (.seq none (.seq none .leaf (.two (.seq none .leaf .leaf) .leaf)) (.seq none .leaf (.seq none .leaf (.two (.seq none .leaf .leaf) .leaf)))))))))) [a0, a1, a2, a3] H R = F.pexpr_reader_several E Tryd.prog a0 a1 a2 a3 H R := by kernel_rfl
theorem b_pexpr_reader_and (a0 a1 : AV) (H : AH) (R : Kt) : bodyW E Tryd.prog Tryd.f23 (.seq none .leaf (.seq none .leaf (.seq none (.seq none .leaf (.two (.seq none .leaf .leaf) .leaf)) (.seq none (.seq none .leaf (.two (.seq none .leaf .leaf) .leaf)) (.seq none .leaf .leaf))))) [a0, a1] H R = F.pexpr_reader_and E Tryd.prog a0 a1 H R := by kernel_rfl
theorem b_expr_walk (a0 a1 : AV) (H : AH) (R : Kt) : bodyW E Tryd.prog Tryd.f24 (.seq none .leaf (.seq none .leaf (.one (.seq none .leaf (.two (.seq none .leaf .leaf) (.seq none .leaf (.two (.seq none .leaf (.seq none .leaf (.one (.loop [27] (.seq none .leaf (.seq none (.two .leaf .leaf) (.seq none (.one (.seq none .leaf .leaf)) .leaf))))))) (.seq none .leaf (.two (.seq none .leaf (.seq none .leaf (.one (.loop [40] (.seq none .leaf (.seq none (.two .leaf .leaf) (.seq none (.one (.seq none .leaf .leaf)) .leaf))))))) .leaf))))))))) [a0, a1] H R = F.expr_walk E Tryd.prog a0 a1 H R := by kernel_rfl
theorem b_expr_sorted_c1 (a0 a1 a2 : AV) (H : AH) (R : Kt) : bodyW E Tryd.prog Tryd.f25 (.seq none .leaf (.seq none .leaf (.two .leaf .leaf))) [a0, a1, a2] H R = F.expr_sorted_c1 E Tryd.prog a0 a1 a2 H R := by kernel_rfl
theorem b_slices_IndexFunc_expr_And_expr_Expr (a0 a1 : AV) (H : AH) (R : Kt) : bodyW E Tryd.prog Tryd.f28 (.seq none .leaf (.seq none (.seq none .leaf (.one (.loop [8] (.seq none .leaf (.seq none (.two .leaf .leaf) (.seq none (.one (.seq none .leaf (.seq none .leaf (.two (.seq none .leaf .leaf) .leaf)))) .leaf)))))) (.seq none .leaf .leaf))) [a0, a1] H R = F.slices_IndexFunc_expr_And_expr_Expr E Tryd.prog a0 a1 H R := by kernel_rfl
theorem b_slices_IndexFunc_expr_Or_expr_Expr (a0 a1 : AV) (H : AH) (R : Kt) : bodyW E Tryd.prog Tryd.f29 (.seq none .leaf (.seq none (.seq none .leaf (.one (.loop [8] (.seq none .leaf (.seq none (.two .leaf .leaf) (.seq none (.one (.seq none .leaf (.seq none .leaf (.two (.seq none .leaf .leaf) .leaf)))) .leaf)))))) (.seq none .leaf .leaf))) [a0, a1] H R = F.slices_IndexFunc_expr_Or_expr_Expr E Tryd.prog a0 a1 H R := by kernel_rfl
theorem b_pexpr_reader_take (a0 a1 : AV) (H : AH) (R : Kt) : bodyW E Tryd.prog Tryd.f30 (.seq none .leaf (.seq none .leaf (.seq none (.seq none .draw (.two (.seq none .leaf (.seq none .leaf .leaf)) .leaf)) (.seq none .leaf .leaf)))) [a0, a1] H R = F.pexpr_reader_take E Tryd.prog a0 a1 H R := by kernel_rfl
theorem b_pexpr_reader_one (a0 a1 : AV) (H : AH) (R : Kt) : bodyW E Tryd.prog Tryd.f31 (.seq none .leaf (.seq none (.seq none .leaf (.two (.seq none .leaf .leaf) .leaf)) (.seq none (.one (.seq none .leaf (.two (.seq none .leaf (.seq none (.seq none .leaf (.two (.seq none .leaf .leaf) .leaf)) (.seq none .leaf .leaf))) (.seq none .leaf (.two (.seq none .leaf (.seq none (.seq none .leaf (.two (.seq none .leaf .leaf) .leaf)) (.seq none (.seq none .leaf (.two (.seq none .leaf .leaf) .leaf)) (.seq none .leaf .leaf)))) (.seq none .leaf (.two (.seq none .leaf .leaf) (.seq none .leaf (.two (.seq none .leaf .leaf) (.seq none .leaf (.two (.seq none .leaf (.seq none .leaf .leaf)) (.seq none .leaf (.two (.seq none .leaf (.seq none .leaf .leaf)) .leaf))))))))))))) (.seq none .leaf (.seq none .leaf .leaf))))) [a0, a1] H R = F.pexpr_reader_one E Tryd.prog a0 a1 H R := by kernel_rfl
theorem b_pexpr_reader_word (a0 : AV) (H : AH) (R : Kt) : bodyW E Tryd.prog Tryd.f34 (.seq none .leaf (.seq none .leaf (.seq none .leaf (.seq none (.one (.loop [4] (.seq none (.seq none .leaf (.two .leaf .leaf)) (.one .leaf)))) (.seq none .draw (.seq none (.seq none .leaf (.two (.seq none .leaf .leaf) .leaf)) (.seq none (.seq none .leaf (.two (.seq none .leaf .leaf) .leaf)) (.seq none .leaf (.seq none .leaf .leaf))))))))) [a0] H R = F.pexpr_reader_word E Tryd.prog a0 H R := by kernel_rfl
theorem b_strings_IndexByte (a0 a1 : AV) (H : AH) (R : Kt) : bodyW E Tryd.prog Tryd.f46 (.seq none .leaf (.seq none .leaf .leaf)) [a0, a1] H R = F.strings_IndexByte E Tryd.prog a0 a1 H R := by kernel_rfl
theorem b_expr_Name (a0 : AV) (H : AH) (R : Kt) : bodyW E Tryd.prog Tryd.f47 (.seq none .leaf (.seq none .leaf .leaf)) [a0] H R = F.expr_Name E Tryd.prog a0 H R := by kernel_rfl
theorem b_internal_stringslite_IndexByte (a0 a1 : AV) (H : AH) (R : Kt) : bodyW E Tryd.prog Tryd.f54 (.seq none .leaf (.seq none .leaf .leaf)) [a0, a1] H R = F.internal_stringslite_IndexByte E Tryd.prog a0 a1 H R := by kernel_rfl
theorem b_strings_Trim (a0 a1 : AV) (H : AH) (R : Kt) : bodyW E Tryd.prog Tryd.f55 (.seq none .leaf (.seq none (.seq none .leaf (.two (.seq none .leaf .leaf) .leaf)) (.seq none (.seq none .leaf (.two (.seq none .draw .leaf) .leaf)) (.seq none (.seq none .leaf (.seq none .leaf (.two (.seq none .leaf .leaf) .leaf))) (.seq none .leaf .leaf))))) [a0, a1] H R = F.strings_Trim E Tryd.prog a0 a1 H R := by kernel_rfl
theorem b_slices_Contains_Lstring_string (a0 a1 : AV) (H : AH) (R : Kt) : bodyW E Tryd.prog Tryd.f56 (.seq none .leaf (.seq none .leaf .leaf)) [a0, a1] H R = F.slices_Contains_Lstring_string E Tryd.prog a0 a1 H R := by kernel_rfl
theorem b_strings_trimLeftByte (a0 a1 : AV) (H : AH) (R : Kt) : bodyW E Tryd.prog Tryd.f59 (.seq none .leaf (.seq none (.one (.loop [0] (.seq none (.seq none .leaf (.two .leaf .leaf)) (.one .leaf)))) (.seq none .leaf .leaf))) [a0, a1] H R = F.strings_trimLeftByte E Tryd.prog a0 a1 H R := by kernel_rfl
theorem b_strings_trimRightByte (a0 a1 : AV) (H : AH) (R : Kt) : bodyW E Tryd.prog Tryd.f60 (.seq none .leaf (.seq none (.one (.loop [0] (.seq none (.seq none .leaf (.two .leaf .leaf)) (.one .leaf)))) (.seq none .leaf .leaf))) [a0, a1] H R = F.strings_trimRightByte E Tryd.prog a0 a1 H R := by kernel_rfl
theorem b_strings_makeASCIISet (a0 : AV) (H : AH) (R : Kt) : bodyW E Tryd.prog Tryd.f61 (.seq none .leaf (.seq none (.seq none .leaf (.one (.loop [4] (.seq none (.seq none .leaf (.two .leaf .leaf)) (.seq none (.one (.seq none .leaf (.seq none (.seq none .leaf (.two (.seq none .leaf .leaf) .leaf)) .leaf))) .leaf))))) (.seq none .leaf .leaf))) [a0] H R = F.strings_makeASCIISet E Tryd.prog a0 H R := by kernel_rfl
theorem b_strings_trimLeftASCII (a0 a1 : AV) (H : AH) (R : Kt) : bodyW E Tryd.prog Tryd.f62 (.seq none .leaf (.seq (some [0]) (.one (.loop [0] (.seq none (.seq none .leaf (.two .leaf .leaf)) (.one (.seq none (.seq none .leaf (.two .leaf .leaf)) .leaf))))) (.seq none .leaf .leaf))) [a0, a1] H R = F.strings_trimLeftASCII E Tryd.prog a0 a1 H R := by kernel_rfl
theorem b_strings_trimRightASCII (a0 a1 : AV) (H : AH) (R : Kt) : bodyW E Tryd.prog Tryd.f63 (.seq none .leaf (.seq (some [0]) (.one (.loop [0] (.seq none (.seq none .leaf (.two .leaf .leaf)) (.one (.seq none (.seq none .leaf (.two .leaf .leaf)) .leaf))))) (.seq none .leaf .leaf))) [a0, a1] H R = F.strings_trimRightASCII E Tryd.prog a0 a1 H R := by kernel_rfl
theorem b_strings_trimLeftUnicode (a0 a1 : AV) (H : AH) (R : Kt) : bodyW E Tryd.prog Tryd.f64 (.seq none .leaf (.seq (some [0]) (.one (.loop [0] (.seq none (.seq none .leaf (.two .leaf .leaf)) (.one (.seq none .leaf (.seq none (.seq none .leaf (.two .leaf .leaf)) .leaf)))))) (.seq none .leaf .leaf))) [a0, a1] H R = F.strings_trimLeftUnicode E Tryd.prog a0 a1 H R := by kernel_rfl
theorem b_strings_trimRightUnicode (a0 a1 : AV) (H : AH) (R : Kt) : bodyW E Tryd.prog Tryd.f65 (.seq none .leaf (.seq (some [0]) (.one (.loop [0] (.seq none (.seq none .leaf (.two .leaf .leaf)) (.one (.seq none .leaf (.seq (some [5, 6]) (.seq none .leaf (.two .leaf .leaf)) (.seq none (.seq none .leaf (.two .leaf .leaf)) .leaf))))))) (.seq none .leaf .leaf))) [a0, a1] H R = F.strings_trimRightUnicode E Tryd.prog a0 a1 H R := by kernel_rfl
theorem b_slices_Index_Lstring_string (a0 a1 : AV) (H : AH) (R : Kt) : bodyW E Tryd.prog Tryd.f66 (.seq none .leaf (.seq none (.seq none .leaf (.one (.loop [8] (.seq none .leaf (.seq none (.two .leaf .leaf) (.seq none (.one (.seq none .leaf (.seq none .leaf (.two (.seq none .leaf .leaf) .leaf)))) .leaf)))))) (.seq none .leaf .leaf))) [a0, a1] H R = F.slices_Index_Lstring_string E Tryd.prog a0 a1 H R := by kernel_rfl
theorem b_pstrings_asciiSet_contains (a0 a1 : AV) (H : AH) (R : Kt) : bodyW E Tryd.prog Tryd.f67 (.seq none .leaf (.seq none .leaf .leaf)) [a0, a1] H R = F.pstrings_asciiSet_contains E Tryd.prog a0 a1 H R := by kernel_rfl
theorem b_unicode_utf8_DecodeRuneInString (a0 : AV) (H : AH) (R : Kt) : bodyW E Tryd.prog Tryd.f68 (.seq none .leaf (.seq none (.seq none .leaf (.two (.seq none .leaf .leaf) .leaf)) .leaf)) [a0] H R = F.unicode_utf8_DecodeRuneInString E Tryd.prog a0 H R := by kernel_rfl
theorem b_strings_ContainsRune (a0 a1 : AV) (H : AH) (R : Kt) : bodyW E Tryd.prog Tryd.f69 (.seq none .leaf (.seq none .leaf .leaf)) [a0, a1] H R = F.strings_ContainsRune E Tryd.prog a0 a1 H R := by kernel_rfl
theorem b_unicode_utf8_DecodeLastRuneInString (a0 : AV) (H : AH) (R : Kt) : bodyW E Tryd.prog Tryd.f70 (.seq none .leaf (.seq none .leaf (.seq none (.seq none .leaf (.two (.seq none .leaf .leaf) .leaf)) (.seq none .leaf (.seq none .leaf (.seq none (.seq none .leaf (.two (.seq none .leaf .leaf) .leaf)) (.seq none .leaf (.seq (some [5]) (.seq none .leaf (.one (.loop [5] (.seq none (.seq none .leaf (.two .leaf .leaf)) (.seq none (.one (.seq none .leaf (.two .leaf .leaf))) .leaf))))) (.seq (some [5]) (.seq none .leaf (.two .leaf .leaf)) (.seq none .leaf (.seq none (.seq none .leaf (.two (.seq none .leaf .leaf) .leaf)) (.seq none .leaf .leaf)))))))))))) [a0] H R = F.unicode_utf8_DecodeLastRuneInString E Tryd.prog a0 H R := by kernel_rfl
theorem b_unicode_utf8_decodeRuneInStringSlow (a0 : AV) (H : AH) (R : Kt) : bodyW E Tryd.prog Tryd.f71 (.seq none .leaf (.seq none .leaf (.seq none (.seq none .leaf (.two (.seq none .leaf .leaf) .leaf)) (.seq none .leaf (.seq none .leaf (.seq none (.seq none .leaf (.two (.seq none .leaf (.seq none .leaf .leaf)) .leaf)) (.seq none .leaf (.seq none .leaf (.seq none (.seq none .leaf (.two (.seq none .leaf .leaf) .leaf)) (.seq none .leaf (.seq none (.seq none .leaf (.two (.seq none .leaf .leaf) .leaf)) (.seq none (.seq none .leaf (.two (.seq none .leaf .leaf) .leaf)) (.seq none .leaf (.seq none (.seq none .leaf (.two (.seq none .leaf .leaf) .leaf)) (.seq none (.seq none .leaf (.two (.seq none .leaf .leaf) .leaf)) (.seq none .leaf (.seq none (.seq none .leaf (.two (.seq none .leaf .leaf) .leaf)) (.seq none .leaf .leaf)))))))))))))))))) [a0] H R = F.unicode_utf8_decodeRuneInStringSlow E Tryd.prog a0 H R := by kernel_rfl
theorem b_strings_IndexRune_ScV11 (a0 a1 : AV) (H : AH) (R : Kt) : bodyW E Tryd.prog Tryd.f72 (.seq none .leaf (.one (.seq none .leaf (.two (.seq none .leaf .leaf) (.seq none .leaf (.two (.seq none (.seq none .leaf (.one (.loop [] (.seq none .leaf (.seq none (.two .leaf .leaf) (.one (.seq none .leaf (.seq none .leaf (.two (.seq none .leaf .leaf) .leaf))))))))) (.seq none .leaf .leaf)) (.seq none .leaf (.two (.seq none .leaf .leaf) (.one (.seq none .leaf (.seq none .leaf (.seq none .leaf (.seq none .leaf (.seq none (.one (.loop [9] (.seq none (.seq none .leaf (.two .leaf .leaf)) (.one (.one (.seq (some [9]) (.seq none .draw (.two (.seq none .draw (.seq none (.seq none .leaf (.two (.seq none .leaf .leaf) .leaf)) .leaf)) .leaf)) (.seq none (.seq none .leaf (.one (.loop [12] (.seq none (.seq none .leaf (.two .leaf .leaf)) (.seq none (.one (.seq none .draw (.two .leaf .leaf))) .leaf))))) (.seq none (.seq none .leaf .leaf) (.seq none .leaf (.seq none .leaf (.seq none .leaf (.seq none .leaf (.two .leaf .leaf))))))))))))) (.seq none (.seq none .leaf .leaf) (.seq none .leaf (.seq none (.two (.seq none .leaf (.seq none .leaf (.two (.seq none .leaf .leaf) .leaf))) (.one (.seq none .leaf (.seq none .leaf (.seq none .leaf (.one (.loop [] (.seq none (.seq none .leaf (.two .leaf .leaf)) (.seq none (.one (.seq none .leaf (.two (.seq none (.seq none .leaf (.one (.loop [] (.seq none (.seq none .leaf (.two .leaf .leaf)) (.seq none (.one (.seq none .leaf (.two .leaf .leaf))) .leaf))))) (.seq none .leaf .leaf)) .leaf))) .leaf))))))))) (.seq none .leaf .leaf)))))))))))))))))) [a0, a1] H R = F.strings_IndexRune_ScV11 E Tryd.prog a0 a1 H R := by kernel_rfl
theorem b_unicode_utf8_RuneStart (a0 : AV) (H : AH) (R : Kt) : bodyW E Tryd.prog Tryd.f73 (.seq none .leaf (.seq none .leaf .leaf)) [a0] H R = F.unicode_utf8_RuneStart E Tryd.prog a0 H R := by kernel_rfl
theorem b_unicode_utf8_ValidRune (a0 : AV) (H : AH) (R : Kt) : bodyW E Tryd.prog Tryd.f74 (.seq none .leaf (.seq none (.one (.seq none .leaf (.two (.seq none .leaf .leaf) (.seq none .leaf (.two (.seq none .leaf .leaf) .leaf))))) (.seq none .leaf .leaf))) [a0] H R = F.unicode_utf8_ValidRune E Tryd.prog a0 H R := by kernel_rfl
theorem b_internal_bytealg_Cutover (a0 : AV) (H : AH) (R : Kt) : bodyW E Tryd.prog Tryd.f75 (.seq none .leaf (.seq none .leaf .leaf)) [a0] H R = F.internal_bytealg_Cutover E Tryd.prog a0 H R := by kernel_rfl
theorem b_expr_Bit_Text (a0 : AV) (H : AH) (R : Kt) : bodyW E Tryd.prog Tryd.f93 (.seq none .leaf (.seq none .leaf .leaf)) [a0] H R = F.expr_Bit_Text E Tryd.prog a0 H R := by kernel_rfl
theorem b_expr_write (a0 a1 : AV) (H : AH) (R : Kt) : bodyW E Tryd.prog Tryd.f94 (.seq none .leaf (.seq none (.seq none .leaf (.one (.seq none .leaf (.two (.seq none .leaf (.seq none (.seq none .leaf (.two (.seq none .leaf .leaf) .leaf)) (.seq none .leaf .leaf))) (.seq none .leaf (.two (.seq none .leaf (.seq none .leaf .leaf)) (.seq none .leaf (.two (.seq none .leaf (.seq none .leaf .leaf)) (.seq none .leaf (.two (.seq none .leaf (.seq none .leaf .leaf)) (.seq none .leaf (.two (.seq none .leaf (.seq none .leaf .leaf)) (.seq none .leaf (.two (.seq none .leaf (.seq none .leaf .leaf)) (.seq none .leaf (.two (.seq none .leaf (.seq none .leaf .leaf)) .leaf)))))))))))))))) (.seq none .leaf .leaf))) [a0, a1] H R = F.expr_write E Tryd.prog a0 a1 H R := by kernel_rfl
theorem b_expr_join (a0 a1 a2 a3 : AV) (H : AH) (R : Kt) : bodyW E Tryd.prog Tryd.f95 (.seq none .leaf (.seq none .leaf (.seq none (.seq none .leaf (.one (.loop [9, 14] (.seq none .leaf (.seq none (.two .leaf .leaf) (.seq none (.one (.seq none .leaf .leaf)) .leaf)))))) (.seq none (.seq none .leaf (.two (.seq none .leaf .leaf) .leaf)) (.seq none .leaf .leaf))))) [a0, a1, a2, a3] H R = F.expr_join E Tryd.prog a0 a1 a2 a3 H R := by kernel_rfl
theorem b_strings_Join (a0 a1 : AV) (H : AH) (R : Kt) : bodyW E Tryd.prog Tryd.f96 (.seq none .leaf (.seq none (.seq none .leaf (.one (.seq none .leaf (.two (.seq none .leaf .leaf) (.seq none .leaf (.two (.seq none .leaf .leaf) .leaf)))))) (.seq none .leaf (.seq (some [5]) (.seq none .leaf (.two (.seq (some []) (.seq none .leaf (.two .leaf .leaf)) .leaf) .leaf)) (.seq none (.seq none .leaf (.one (.loop [5, 41] (.seq none .leaf (.seq none (.two .leaf .leaf) (.seq none (.one (.seq none .leaf (.seq (some []) (.seq none .leaf (.two .leaf .leaf)) .leaf))) .leaf)))))) (.seq none .leaf (.seq none .leaf (.seq none .leaf (.seq none (.seq none .leaf (.one (.loop [65] (.seq none .leaf (.seq none (.two .leaf .leaf) (.seq none (.one (.seq none .leaf (.seq none .leaf .leaf))) .leaf)))))) (.seq none .leaf .leaf)))))))))) [a0, a1] H R = F.strings_Join E Tryd.prog a0 a1 H R := by kernel_rfl
theorem b_pstrings_Builder_Grow (a0 a1 : AV) (H : AH) (R : Kt) : bodyW E Tryd.prog Tryd.f97 (.seq none .leaf (.seq (some []) (.seq none .leaf (.two .leaf .leaf)) (.seq none .draw (.two .leaf .leaf)))) [a0, a1] H R = F.pstrings_Builder_Grow E Tryd.prog a0 a1 H R := by kernel_rfl
theorem b_pstrings_Builder_WriteString (a0 a1 : AV) (H : AH) (R : Kt) : bodyW E Tryd.prog Tryd.f98 (.seq none .leaf (.seq none .leaf (.seq none .leaf (.seq none .leaf .leaf)))) [a0, a1] H R = F.pstrings_Builder_WriteString E Tryd.prog a0 a1 H R := by kernel_rfl
theorem b_pstrings_Builder_String (a0 : AV) (H : AH) (R : Kt) : bodyW E Tryd.prog Tryd.f99 (.seq none .leaf (.seq none .draw .leaf)) [a0] H R = F.pstrings_Builder_String E Tryd.prog a0 H R := by kernel_rfl
theorem b_pstrings_Builder_copyCheck (a0 : AV) (H : AH) (R : Kt) : bodyW E Tryd.prog Tryd.f100 (.seq none .leaf (.two .leaf (.seq none .leaf (.two .leaf .leaf)))) [a0] H R = F.pstrings_Builder_copyCheck E Tryd.prog a0 H R := by kernel_rfl
theorem b_pstrings_Builder_grow (a0 a1 : AV) (H : AH) (R : Kt) : bodyW E Tryd.prog Tryd.f101 (.seq none .draw (.seq none .leaf .leaf)) [a0, a1] H R = F.pstrings_Builder_grow E Tryd.prog a0 a1 H R := by kernel_rfl
theorem b_expr_Rise_Text (a0 : AV) (H : AH) (R : Kt) : bodyW E Tryd.prog Tryd.f104 (.seq none .leaf (.seq none .leaf .leaf)) [a0] H R = F.expr_Rise_Text E Tryd.prog a0 H R := by kernel_rfl
theorem b_expr_Fall_Text (a0 : AV) (H : AH) (R : Kt) : bodyW E Tryd.prog Tryd.f105 (.seq none .leaf (.seq none .leaf .leaf)) [a0] H R = F.expr_Fall_Text E Tryd.prog a0 H R := by kernel_rfl
theorem b_expr_Const_Text (a0 : AV) (H : AH) (R : Kt) : bodyW E Tryd.prog Tryd.f106 (.seq none .leaf (.seq none .leaf .leaf)) [a0] H R = F.expr_Const_Text E Tryd.prog a0 H R := by kernel_rfl
theorem b_expr_Not_Text (a0 : AV) (H : AH) (R : Kt) : bodyW E Tryd.prog Tryd.f107 (.seq none .leaf (.seq none .leaf .leaf)) [a0] H R = F.expr_Not_Text E Tryd.prog a0 H R := by kernel_rfl
theorem b_expr_And_Text (a0 : AV) (H : AH) (R : Kt) : bodyW E Tryd.prog Tryd.f108 (.seq none .leaf (.seq none .leaf .leaf)) [a0] H R = F.expr_And_Text E Tryd.prog a0 H R := by kernel_rfl
theorem b_expr_Or_Text (a0 : AV) (H : AH) (R : Kt) : bodyW E Tryd.prog Tryd.f109 (.seq none .leaf (.seq none .leaf .leaf)) [a0] H R = F.expr_Or_Text E Tryd.prog a0 H R := by kernel_rfl
theorem c_keep_ExprHangs (a0 a1 a2 a3 : AV) (H : AH) (R : Kt) (h : F.keep_ExprHangs E Tryd.prog a0 a1 a2 a3 H R) : ACalls E Tryd.prog 223 [a0, a1, a2, a3] H R :=
  acalls_of_body (show Tryd.prog.funcs[E.fn 223]? = some Tryd.f3 from Tryd.func3) (by kernel_rfl) ((b_keep_ExprHangs a0 a1 a2 a3 H R).mpr h)
theorem c_expr_Parse (a0 : AV) (H : AH) (R : Kt) (h : F.expr_Parse E Tryd.prog a0 H R) : ACalls E Tryd.prog 126 [a0] H R :=
  acalls_of_body (show Tryd.prog.funcs[E.fn 126]? = some Tryd.f4 from Tryd.func4) (by kernel_rfl) ((b_expr_Parse a0 H R).mpr h)
theorem c_keep_says (H : AH) (R : Kt) (h : F.keep_says E Tryd.prog H R) : ACalls E Tryd.prog 155 [] H R :=
  acalls_of_body (show Tryd.prog.funcs[E.fn 155]? = some Tryd.f5 from Tryd.func5) (by kernel_rfl) ((b_keep_says H R).mpr h)
theorem c_expr_Names (a0 : AV) (H : AH) (R : Kt) (h : F.expr_Names E Tryd.prog a0 H R) : ACalls E Tryd.prog 181 [a0] H R :=
  acalls_of_body (show Tryd.prog.funcs[E.fn 181]? = some Tryd.f6 from Tryd.func6) (by kernel_rfl) ((b_expr_Names a0 H R).mpr h)
theorem c_expr_Edges (a0 : AV) (H : AH) (R : Kt) (h : F.expr_Edges E Tryd.prog a0 H R) : ACalls E Tryd.prog 184 [a0] H R :=
  acalls_of_body (show Tryd.prog.funcs[E.fn 184]? = some Tryd.f7 from Tryd.func7) (by kernel_rfl) ((b_expr_Edges a0 H R).mpr h)
theorem c_keep_among (a0 : AV) (H : AH) (R : Kt) (h : F.keep_among E Tryd.prog a0 H R) : ACalls E Tryd.prog 157 [a0] H R :=
  acalls_of_body (show Tryd.prog.funcs[E.fn 157]? = some Tryd.f8 from Tryd.func8) (by kernel_rfl) ((b_keep_among a0 H R).mpr h)
theorem c_expr_Eval (a0 a1 a2 : AV) (H : AH) (R : Kt) (h : F.expr_Eval E Tryd.prog a0 a1 a2 H R) : ACalls E Tryd.prog 158 [a0, a1, a2] H R :=
  acalls_of_body (show Tryd.prog.funcs[E.fn 158]? = some Tryd.f9 from Tryd.func9) (by kernel_rfl) ((b_expr_Eval a0 a1 a2 H R).mpr h)
theorem c_pexpr_reader_or (a0 a1 : AV) (H : AH) (R : Kt) (h : F.pexpr_reader_or E Tryd.prog a0 a1 H R) : ACalls E Tryd.prog 133 [a0, a1] H R :=
  acalls_of_body (show Tryd.prog.funcs[E.fn 133]? = some Tryd.f10 from Tryd.func10) (by kernel_rfl) ((b_pexpr_reader_or a0 a1 H R).mpr h)
theorem c_pexpr_reader_blanks (a0 : AV) (H : AH) (R : Kt) (h : F.pexpr_reader_blanks E Tryd.prog a0 H R) : ACalls E Tryd.prog 134 [a0] H R :=
  acalls_of_body (show Tryd.prog.funcs[E.fn 134]? = some Tryd.f11 from Tryd.func11) (by kernel_rfl) ((b_pexpr_reader_blanks a0 H R).mpr h)
theorem c_pexpr_reader_fail (a0 a1 : AV) (H : AH) (R : Kt) (h : F.pexpr_reader_fail E Tryd.prog a0 a1 H R) : ACalls E Tryd.prog 135 [a0, a1] H R :=
  acalls_of_body (show Tryd.prog.funcs[E.fn 135]? = some Tryd.f12 from Tryd.func12) (by kernel_rfl) ((b_pexpr_reader_fail a0 a1 H R).mpr h)
theorem c_expr_Text (a0 : AV) (H : AH) (R : Kt) (h : F.expr_Text E Tryd.prog a0 H R) : ACalls E Tryd.prog 127 [a0] H R :=
  acalls_of_body (show Tryd.prog.funcs[E.fn 127]? = some Tryd.f13 from Tryd.func13) (by kernel_rfl) ((b_expr_Text a0 H R).mpr h)
theorem c_expr_sorted (a0 a1 : AV) (H : AH) (R : Kt) (h : F.expr_sorted E Tryd.prog a0 a1 H R) : ACalls E Tryd.prog 190 [a0, a1] H R :=
  acalls_of_body (show Tryd.prog.funcs[E.fn 190]? = some Tryd.f14 from Tryd.func14) (by kernel_rfl) ((b_expr_sorted a0 a1 H R).mpr h)
theorem c_expr_Names_c1 (a0 : AV) (H : AH) (R : Kt) (h : F.expr_Names_c1 E Tryd.prog a0 H R) : ACalls E Tryd.prog 189 [a0] H R :=
  acalls_of_body (show Tryd.prog.funcs[E.fn 189]? = some Tryd.f15 from Tryd.func15) (by kernel_rfl) ((b_expr_Names_c1 a0 H R).mpr h)
theorem c_expr_Edges_c1 (a0 : AV) (H : AH) (R : Kt) (h : F.expr_Edges_c1 E Tryd.prog a0 H R) : ACalls E Tryd.prog 192 [a0] H R :=
  acalls_of_body (show Tryd.prog.funcs[E.fn 192]? = some Tryd.f16 from Tryd.func16) (by kernel_rfl) ((b_expr_Edges_c1 a0 H R).mpr h)
theorem c_keep_among_c1 (a0 a1 : AV) (H : AH) (R : Kt) (h : F.keep_among_c1 E Tryd.prog a0 a1 H R) : ACalls E Tryd.prog 166 [a0, a1] H R :=
  acalls_of_body (show Tryd.prog.funcs[E.fn 166]? = some Tryd.f17 from Tryd.func17) (by kernel_rfl) ((b_keep_among_c1 a0 a1 H R).mpr h)
theorem c_slices_ContainsFunc_expr_And_expr_Expr (a0 a1 : AV) (H : AH) (R : Kt) (h : F.slices_ContainsFunc_expr_And_expr_Expr E Tryd.prog a0 a1 H R) : ACalls E Tryd.prog 163 [a0, a1] H R :=
  acalls_of_body (show Tryd.prog.funcs[E.fn 163]? = some Tryd.f18 from Tryd.func18) (by kernel_rfl) ((b_slices_ContainsFunc_expr_And_expr_Expr a0 a1 H R).mpr h)
theorem c_expr_Eval_c1 (a0 a1 a2 : AV) (H : AH) (R : Kt) (h : F.expr_Eval_c1 E Tryd.prog a0 a1 a2 H R) : ACalls E Tryd.prog 162 [a0, a1, a2] H R :=
  acalls_of_body (show Tryd.prog.funcs[E.fn 162]? = some Tryd.f19 from Tryd.func19) (by kernel_rfl) ((b_expr_Eval_c1 a0 a1 a2 H R).mpr h)
theorem c_slices_ContainsFunc_expr_Or_expr_Expr (a0 a1 : AV) (H : AH) (R : Kt) (h : F.slices_ContainsFunc_expr_Or_expr_Expr E Tryd.prog a0 a1 H R) : ACalls E Tryd.prog 165 [a0, a1] H R :=
  acalls_of_body (show Tryd.prog.funcs[E.fn 165]? = some Tryd.f20 from Tryd.func20) (by kernel_rfl) ((b_slices_ContainsFunc_expr_Or_expr_Expr a0 a1 H R).mpr h)
theorem c_expr_Eval_c2 (a0 a1 a2 : AV) (H : AH) (R : Kt) (h : F.expr_Eval_c2 E Tryd.prog a0 a1 a2 H R) : ACalls E Tryd.prog 164 [a0, a1, a2] H R :=
  acalls_of_body (show Tryd.prog.funcs[E.fn 164]? = some Tryd.f21 from Tryd.func21) (by kernel_rfl) ((b_expr_Eval_c2 a0 a1 a2 H R).mpr h)
theorem c_pexpr_reader_several (a0 a1 a2 a3 : AV) (H : AH) (R : Kt) (h : F.pexpr_reader_several E Tryd.prog a0 a1 a2 a3 H R) : ACalls E Tryd.prog 140 [a0, a1, a2, a3] H R :=
  acalls_of_body (show Tryd.prog.funcs[E.fn 140]? = some Tryd.f22 from Tryd.func22) (by kernel_rfl) ((b_pexpr_reader_several a0 a1 a2 a3 H R).mpr h)
theorem c_pexpr_reader_and (a0 a1 : AV) (H : AH) (R : Kt) (h : F.pexpr_reader_and E Tryd.prog a0 a1 H R) : ACalls E Tryd.prog 139 [a0, a1] H R :=
  acalls_of_body (show Tryd.prog.funcs[E.fn 139]? = some Tryd.f23 from Tryd.func23) (by kernel_rfl) ((b_pexpr_reader_and a0 a1 H R).mpr h)
theorem c_expr_walk (a0 a1 : AV) (H : AH) (R : Kt) (h : F.expr_walk E Tryd.prog a0 a1 H R) : ACalls E Tryd.prog 161 [a0, a1] H R :=
  acalls_of_body (show Tryd.prog.funcs[E.fn 161]? = some Tryd.f24 from Tryd.func24) (by kernel_rfl) ((b_expr_walk a0 a1 H R).mpr h)
theorem c_expr_sorted_c1 (a0 a1 a2 : AV) (H : AH) (R : Kt) (h : F.expr_sorted_c1 E Tryd.prog a0 a1 a2 H R) : ACalls E Tryd.prog 193 [a0, a1, a2] H R :=
  acalls_of_body (show Tryd.prog.funcs[E.fn 193]? = some Tryd.f25 from Tryd.func25) (by kernel_rfl) ((b_expr_sorted_c1 a0 a1 a2 H R).mpr h)
theorem c_slices_IndexFunc_expr_And_expr_Expr (a0 a1 : AV) (H : AH) (R : Kt) (h : F.slices_IndexFunc_expr_And_expr_Expr E Tryd.prog a0 a1 H R) : ACalls E Tryd.prog 167 [a0, a1] H R :=
  acalls_of_body (show Tryd.prog.funcs[E.fn 167]? = some Tryd.f28 from Tryd.func28) (by kernel_rfl) ((b_slices_IndexFunc_expr_And_expr_Expr a0 a1 H R).mpr h)
theorem c_slices_IndexFunc_expr_Or_expr_Expr (a0 a1 : AV) (H : AH) (R : Kt) (h : F.slices_IndexFunc_expr_Or_expr_Expr E Tryd.prog a0 a1 H R) : ACalls E Tryd.prog 168 [a0, a1] H R :=
  acalls_of_body (show Tryd.prog.funcs[E.fn 168]? = some Tryd.f29 from Tryd.func29) (by kernel_rfl) ((b_slices_IndexFunc_expr_Or_expr_Expr a0 a1 H R).mpr h)
theorem c_pexpr_reader_take (a0 a1 : AV) (H : AH) (R : Kt) (h : F.pexpr_reader_take E Tryd.prog a0 a1 H R) : ACalls E Tryd.prog 143 [a0, a1] H R :=
  acalls_of_body (show Tryd.prog.funcs[E.fn 143]? = some Tryd.f30 from Tryd.func30) (by kernel_rfl) ((b_pexpr_reader_take a0 a1 H R).mpr h)
theorem c_pexpr_reader_one (a0 a1 : AV) (H : AH) (R : Kt) (h : F.pexpr_reader_one E Tryd.prog a0 a1 H R) : ACalls E Tryd.prog 144 [a0, a1] H R :=
  acalls_of_body (show Tryd.prog.funcs[E.fn 144]? = some Tryd.f31 from Tryd.func31) (by kernel_rfl) ((b_pexpr_reader_one a0 a1 H R).mpr h)
theorem c_pexpr_reader_word (a0 : AV) (H : AH) (R : Kt) (h : F.pexpr_reader_word E Tryd.prog a0 H R) : ACalls E Tryd.prog 145 [a0] H R :=
  acalls_of_body (show Tryd.prog.funcs[E.fn 145]? = some Tryd.f34 from Tryd.func34) (by kernel_rfl) ((b_pexpr_reader_word a0 H R).mpr h)
theorem c_strings_IndexByte (a0 a1 : AV) (H : AH) (R : Kt) (h : F.strings_IndexByte E Tryd.prog a0 a1 H R) : ACalls E Tryd.prog 21 [a0, a1] H R :=
  acalls_of_body (show Tryd.prog.funcs[E.fn 21]? = some Tryd.f46 from Tryd.func46) (by kernel_rfl) ((b_strings_IndexByte a0 a1 H R).mpr h)
theorem c_expr_Name (a0 : AV) (H : AH) (R : Kt) (h : F.expr_Name E Tryd.prog a0 H R) : ACalls E Tryd.prog 1 [a0] H R :=
  acalls_of_body (show Tryd.prog.funcs[E.fn 1]? = some Tryd.f47 from Tryd.func47) (by kernel_rfl) ((b_expr_Name a0 H R).mpr h)
theorem c_internal_stringslite_IndexByte (a0 a1 : AV) (H : AH) (R : Kt) (h : F.internal_stringslite_IndexByte E Tryd.prog a0 a1 H R) : ACalls E Tryd.prog 23 [a0, a1] H R :=
  acalls_of_body (show Tryd.prog.funcs[E.fn 23]? = some Tryd.f54 from Tryd.func54) (by kernel_rfl) ((b_internal_stringslite_IndexByte a0 a1 H R).mpr h)
theorem c_strings_Trim (a0 a1 : AV) (H : AH) (R : Kt) (h : F.strings_Trim E Tryd.prog a0 a1 H R) : ACalls E Tryd.prog 4 [a0, a1] H R :=
  acalls_of_body (show Tryd.prog.funcs[E.fn 4]? = some Tryd.f55 from Tryd.func55) (by kernel_rfl) ((b_strings_Trim a0 a1 H R).mpr h)
theorem c_slices_Contains_Lstring_string (a0 a1 : AV) (H : AH) (R : Kt) (h : F.slices_Contains_Lstring_string E Tryd.prog a0 a1 H R) : ACalls E Tryd.prog 5 [a0, a1] H R :=
  acalls_of_body (show Tryd.prog.funcs[E.fn 5]? = some Tryd.f56 from Tryd.func56) (by kernel_rfl) ((b_slices_Contains_Lstring_string a0 a1 H R).mpr h)
theorem c_strings_trimLeftByte (a0 a1 : AV) (H : AH) (R : Kt) (h : F.strings_trimLeftByte E Tryd.prog a0 a1 H R) : ACalls E Tryd.prog 7 [a0, a1] H R :=
  acalls_of_body (show Tryd.prog.funcs[E.fn 7]? = some Tryd.f59 from Tryd.func59) (by kernel_rfl) ((b_strings_trimLeftByte a0 a1 H R).mpr h)
theorem c_strings_trimRightByte (a0 a1 : AV) (H : AH) (R : Kt) (h : F.strings_trimRightByte E Tryd.prog a0 a1 H R) : ACalls E Tryd.prog 6 [a0, a1] H R :=
  acalls_of_body (show Tryd.prog.funcs[E.fn 6]? = some Tryd.f60 from Tryd.func60) (by kernel_rfl) ((b_strings_trimRightByte a0 a1 H R).mpr h)
theorem c_strings_makeASCIISet (a0 : AV) (H : AH) (R : Kt) (h : F.strings_makeASCIISet E Tryd.prog a0 H R) : ACalls E Tryd.prog 8 [a0] H R :=
  acalls_of_body (show Tryd.prog.funcs[E.fn 8]? = some Tryd.f61 from Tryd.func61) (by kernel_rfl) ((b_strings_makeASCIISet a0 H R).mpr h)
theorem c_strings_trimLeftASCII (a0 a1 : AV) (H : AH) (R : Kt) (h : F.strings_trimLeftASCII E Tryd.prog a0 a1 H R) : ACalls E Tryd.prog 10 [a0, a1] H R :=
  acalls_of_body (show Tryd.prog.funcs[E.fn 10]? = some Tryd.f62 from Tryd.func62) (by kernel_rfl) ((b_strings_trimLeftASCII a0 a1 H R).mpr h)
theorem c_strings_trimRightASCII (a0 a1 : AV) (H : AH) (R : Kt) (h : F.strings_trimRightASCII E Tryd.prog a0 a1 H R) : ACalls E Tryd.prog 9 [a0, a1] H R :=
  acalls_of_body (show Tryd.prog.funcs[E.fn 9]? = some Tryd.f63 from Tryd.func63) (by kernel_rfl) ((b_strings_trimRightASCII a0 a1 H R).mpr h)
theorem c_strings_trimLeftUnicode (a0 a1 : AV) (H : AH) (R : Kt) (h : F.strings_trimLeftUnicode E Tryd.prog a0 a1 H R) : ACalls E Tryd.prog 12 [a0, a1] H R :=
  acalls_of_body (show Tryd.prog.funcs[E.fn 12]? = some Tryd.f64 from Tryd.func64) (by kernel_rfl) ((b_strings_trimLeftUnicode a0 a1 H R).mpr h)
theorem c_strings_trimRightUnicode (a0 a1 : AV) (H : AH) (R : Kt) (h : F.strings_trimRightUnicode E Tryd.prog a0 a1 H R) : ACalls E Tryd.prog 11 [a0, a1] H R :=
  acalls_of_body (show Tryd.prog.funcs[E.fn 11]? = some Tryd.f65 from Tryd.func65) (by kernel_rfl) ((b_strings_trimRightUnicode a0 a1 H R).mpr h)
theorem c_slices_Index_Lstring_string (a0 a1 : AV) (H : AH) (R : Kt) (h : F.slices_Index_Lstring_string E Tryd.prog a0 a1 H R) : ACalls E Tryd.prog 13 [a0, a1] H R :=
  acalls_of_body (show Tryd.prog.funcs[E.fn 13]? = some Tryd.f66 from Tryd.func66) (by kernel_rfl) ((b_slices_Index_Lstring_string a0 a1 H R).mpr h)
theorem c_pstrings_asciiSet_contains (a0 a1 : AV) (H : AH) (R : Kt) (h : F.pstrings_asciiSet_contains E Tryd.prog a0 a1 H R) : ACalls E Tryd.prog 14 [a0, a1] H R :=
  acalls_of_body (show Tryd.prog.funcs[E.fn 14]? = some Tryd.f67 from Tryd.func67) (by kernel_rfl) ((b_pstrings_asciiSet_contains a0 a1 H R).mpr h)
theorem c_unicode_utf8_DecodeRuneInString (a0 : AV) (H : AH) (R : Kt) (h : F.unicode_utf8_DecodeRuneInString E Tryd.prog a0 H R) : ACalls E Tryd.prog 15 [a0] H R :=
  acalls_of_body (show Tryd.prog.funcs[E.fn 15]? = some Tryd.f68 from Tryd.func68) (by kernel_rfl) ((b_unicode_utf8_DecodeRuneInString a0 H R).mpr h)
theorem c_strings_ContainsRune (a0 a1 : AV) (H : AH) (R : Kt) (h : F.strings_ContainsRune E Tryd.prog a0 a1 H R) : ACalls E Tryd.prog 16 [a0, a1] H R :=
  acalls_of_body (show Tryd.prog.funcs[E.fn 16]? = some Tryd.f69 from Tryd.func69) (by kernel_rfl) ((b_strings_ContainsRune a0 a1 H R).mpr h)
theorem c_unicode_utf8_DecodeLastRuneInString (a0 : AV) (H : AH) (R : Kt) (h : F.unicode_utf8_DecodeLastRuneInString E Tryd.prog a0 H R) : ACalls E Tryd.prog 17 [a0] H R :=
  acalls_of_body (show Tryd.prog.funcs[E.fn 17]? = some Tryd.f70 from Tryd.func70) (by kernel_rfl) ((b_unicode_utf8_DecodeLastRuneInString a0 H R).mpr h)
theorem c_unicode_utf8_decodeRuneInStringSlow (a0 : AV) (H : AH) (R : Kt) (h : F.unicode_utf8_decodeRuneInStringSlow E Tryd.prog a0 H R) : ACalls E Tryd.prog 18 [a0] H R :=
  acalls_of_body (show Tryd.prog.funcs[E.fn 18]? = some Tryd.f71 from Tryd.func71) (by kernel_rfl) ((b_unicode_utf8_decodeRuneInStringSlow a0 H R).mpr h)
theorem c_strings_IndexRune_ScV11 (a0 a1 : AV) (H : AH) (R : Kt) (h : F.strings_IndexRune_ScV11 E Tryd.prog a0 a1 H R) : ACalls E Tryd.prog 19 [a0, a1] H R :=
  acalls_of_body (show Tryd.prog.funcs[E.fn 19]? = some Tryd.f72 from Tryd.func72) (by kernel_rfl) ((b_strings_IndexRune_ScV11 a0 a1 H R).mpr h)
theorem c_unicode_utf8_RuneStart (a0 : AV) (H : AH) (R : Kt) (h : F.unicode_utf8_RuneStart E Tryd.prog a0 H R) : ACalls E Tryd.prog 20 [a0] H R :=
  acalls_of_body (show Tryd.prog.funcs[E.fn 20]? = some Tryd.f73 from Tryd.func73) (by kernel_rfl) ((b_unicode_utf8_RuneStart a0 H R).mpr h)
theorem c_unicode_utf8_ValidRune (a0 : AV) (H : AH) (R : Kt) (h : F.unicode_utf8_ValidRune E Tryd.prog a0 H R) : ACalls E Tryd.prog 22 [a0] H R :=
  acalls_of_body (show Tryd.prog.funcs[E.fn 22]? = some Tryd.f74 from Tryd.func74) (by kernel_rfl) ((b_unicode_utf8_ValidRune a0 H R).mpr h)
theorem c_internal_bytealg_Cutover (a0 : AV) (H : AH) (R : Kt) (h : F.internal_bytealg_Cutover E Tryd.prog a0 H R) : ACalls E Tryd.prog 24 [a0] H R :=
  acalls_of_body (show Tryd.prog.funcs[E.fn 24]? = some Tryd.f75 from Tryd.func75) (by kernel_rfl) ((b_internal_bytealg_Cutover a0 H R).mpr h)
theorem c_expr_Bit_Text (a0 : AV) (H : AH) (R : Kt) (h : F.expr_Bit_Text E Tryd.prog a0 H R) : ACalls E Tryd.prog 154 [a0] H R :=
  acalls_of_body (show Tryd.prog.funcs[E.fn 154]? = some Tryd.f93 from Tryd.func93) (by kernel_rfl) ((b_expr_Bit_Text a0 H R).mpr h)
theorem c_expr_write (a0 a1 : AV) (H : AH) (R : Kt) (h : F.expr_write E Tryd.prog a0 a1 H R) : ACalls E Tryd.prog 146 [a0, a1] H R :=
  acalls_of_body (show Tryd.prog.funcs[E.fn 146]? = some Tryd.f94 from Tryd.func94) (by kernel_rfl) ((b_expr_write a0 a1 H R).mpr h)
theorem c_expr_join (a0 a1 a2 a3 : AV) (H : AH) (R : Kt) (h : F.expr_join E Tryd.prog a0 a1 a2 a3 H R) : ACalls E Tryd.prog 148 [a0, a1, a2, a3] H R :=
  acalls_of_body (show Tryd.prog.funcs[E.fn 148]? = some Tryd.f95 from Tryd.func95) (by kernel_rfl) ((b_expr_join a0 a1 a2 a3 H R).mpr h)
theorem c_strings_Join (a0 a1 : AV) (H : AH) (R : Kt) (h : F.strings_Join E Tryd.prog a0 a1 H R) : ACalls E Tryd.prog 118 [a0, a1] H R :=
  acalls_of_body (show Tryd.prog.funcs[E.fn 118]? = some Tryd.f96 from Tryd.func96) (by kernel_rfl) ((b_strings_Join a0 a1 H R).mpr h)
theorem c_pstrings_Builder_Grow (a0 a1 : AV) (H : AH) (R : Kt) (h : F.pstrings_Builder_Grow E Tryd.prog a0 a1 H R) : ACalls E Tryd.prog 119 [a0, a1] H R :=
  acalls_of_body (show Tryd.prog.funcs[E.fn 119]? = some Tryd.f97 from Tryd.func97) (by kernel_rfl) ((b_pstrings_Builder_Grow a0 a1 H R).mpr h)
theorem c_pstrings_Builder_WriteString (a0 a1 : AV) (H : AH) (R : Kt) (h : F.pstrings_Builder_WriteString E Tryd.prog a0 a1 H R) : ACalls E Tryd.prog 120 [a0, a1] H R :=
  acalls_of_body (show Tryd.prog.funcs[E.fn 120]? = some Tryd.f98 from Tryd.func98) (by kernel_rfl) ((b_pstrings_Builder_WriteString a0 a1 H R).mpr h)
theorem c_pstrings_Builder_String (a0 : AV) (H : AH) (R : Kt) (h : F.pstrings_Builder_String E Tryd.prog a0 H R) : ACalls E Tryd.prog 121 [a0] H R :=
  acalls_of_body (show Tryd.prog.funcs[E.fn 121]? = some Tryd.f99 from Tryd.func99) (by kernel_rfl) ((b_pstrings_Builder_String a0 H R).mpr h)
theorem c_pstrings_Builder_copyCheck (a0 : AV) (H : AH) (R : Kt) (h : F.pstrings_Builder_copyCheck E Tryd.prog a0 H R) : ACalls E Tryd.prog 122 [a0] H R :=
  acalls_of_body (show Tryd.prog.funcs[E.fn 122]? = some Tryd.f100 from Tryd.func100) (by kernel_rfl) ((b_pstrings_Builder_copyCheck a0 H R).mpr h)
theorem c_pstrings_Builder_grow (a0 a1 : AV) (H : AH) (R : Kt) (h : F.pstrings_Builder_grow E Tryd.prog a0 a1 H R) : ACalls E Tryd.prog 124 [a0, a1] H R :=
  acalls_of_body (show Tryd.prog.funcs[E.fn 124]? = some Tryd.f101 from Tryd.func101) (by kernel_rfl) ((b_pstrings_Builder_grow a0 a1 H R).mpr h)
theorem c_expr_Rise_Text (a0 : AV) (H : AH) (R : Kt) (h : F.expr_Rise_Text E Tryd.prog a0 H R) : ACalls E Tryd.prog 152 [a0] H R :=
  acalls_of_body (show Tryd.prog.funcs[E.fn 152]? = some Tryd.f104 from Tryd.func104) (by kernel_rfl) ((b_expr_Rise_Text a0 H R).mpr h)
theorem c_expr_Fall_Text (a0 : AV) (H : AH) (R : Kt) (h : F.expr_Fall_Text E Tryd.prog a0 H R) : ACalls E Tryd.prog 153 [a0] H R :=
  acalls_of_body (show Tryd.prog.funcs[E.fn 153]? = some Tryd.f105 from Tryd.func105) (by kernel_rfl) ((b_expr_Fall_Text a0 H R).mpr h)
theorem c_expr_Const_Text (a0 : AV) (H : AH) (R : Kt) (h : F.expr_Const_Text E Tryd.prog a0 H R) : ACalls E Tryd.prog 151 [a0] H R :=
  acalls_of_body (show Tryd.prog.funcs[E.fn 151]? = some Tryd.f106 from Tryd.func106) (by kernel_rfl) ((b_expr_Const_Text a0 H R).mpr h)
theorem c_expr_Not_Text (a0 : AV) (H : AH) (R : Kt) (h : F.expr_Not_Text E Tryd.prog a0 H R) : ACalls E Tryd.prog 150 [a0] H R :=
  acalls_of_body (show Tryd.prog.funcs[E.fn 150]? = some Tryd.f107 from Tryd.func107) (by kernel_rfl) ((b_expr_Not_Text a0 H R).mpr h)
theorem c_expr_And_Text (a0 : AV) (H : AH) (R : Kt) (h : F.expr_And_Text E Tryd.prog a0 H R) : ACalls E Tryd.prog 149 [a0] H R :=
  acalls_of_body (show Tryd.prog.funcs[E.fn 149]? = some Tryd.f108 from Tryd.func108) (by kernel_rfl) ((b_expr_And_Text a0 H R).mpr h)
theorem c_expr_Or_Text (a0 : AV) (H : AH) (R : Kt) (h : F.expr_Or_Text E Tryd.prog a0 H R) : ACalls E Tryd.prog 147 [a0] H R :=
  acalls_of_body (show Tryd.prog.funcs[E.fn 147]? = some Tryd.f109 from Tryd.func109) (by kernel_rfl) ((b_expr_Or_Text a0 H R).mpr h)
end Go.Proofs.YtjdfaaccmdajdaaDoor
set_option maxRecDepth 100000
namespace Go.Proofs
open Go.Shelf
def Tryd.lays156_ren : Go.Shelf.Ren := ⟨fun | 156 => 96 | 165 => 97 | 166 => 98 | 169 => 99 | 240 => 100 | 241 => 101 | 276 => 102 | 277 => 103 | n => n, fun | 31 => 22 | 9 => 9 | 3 => 3 | 4 => 4 | 0 => 0 | 20 => 20 | 72 => 137 | 76 => 139 | 70 => 134 | 37 => 135 | 75 => 26 | 127 => 126 | 164 => 141 | 5 => 5 | 80 => 60 | n => n, fun | n => n⟩
theorem Tryd.lays156 : Go.Proofs.Lays.n156 Tryd.prog Tryd.lays156_ren := {
  mixed := by kernel_rfl
  f156 := Tryd.func96.trans (congrArg some (by kernel_rfl))
  f165 := Tryd.func97.trans (congrArg some (by kernel_rfl))
  f166 := Tryd.func98.trans (congrArg some (by kernel_rfl))
  f169 := Tryd.func99.trans (congrArg some (by kernel_rfl))
  f240 := Tryd.func100.trans (congrArg some (by kernel_rfl))
  f241 := Tryd.func101.trans (congrArg some (by kernel_rfl))
  f276 := Tryd.func102.trans (congrArg some (by kernel_rfl))
  f277 := Tryd.func103.trans (congrArg some (by kernel_rfl))
  t0 := Tryd.underlying0
  a0 := Tryd.isAgg0
  z0 := Tryd.sizeOf0
  v0 := Tryd.zeroValue0
  t3 := Tryd.underlying3
  a3 := Tryd.isAgg3
  z3 := Tryd.sizeOf3
  v3 := Tryd.zeroValue3
  t4 := Tryd.underlying4
  a4 := Tryd.isAgg4
  z4 := Tryd.sizeOf4
  v4 := Tryd.zeroValue4
  t9 := Tryd.underlying9
  a9 := Tryd.isAgg9
  z9 := Tryd.sizeOf9
  v9 := Tryd.zeroValue9
  t20 := Tryd.underlying20
  a20 := Tryd.isAgg20
  z20 := Tryd.sizeOf20
  v20 := Tryd.zeroValue20
  t31 := Tryd.underlying22
  a31 := Tryd.isAgg22
  z31 := Tryd.sizeOf22
  v31 := Tryd.zeroValue22
  t37 := Tryd.underlying135
  a37 := Tryd.isAgg135
  z37 := Tryd.sizeOf135
  v37 := Tryd.zeroValue135
  t70 := Tryd.underlying134
  a70 := Tryd.isAgg134
  z70 := Tryd.sizeOf134
  v70 := Tryd.zeroValue134
  t72 := Tryd.underlying137
  a72 := Tryd.isAgg137
  z72 := Tryd.sizeOf137
  v72 := Tryd.zeroValue137
  t75 := Tryd.underlying26
  a75 := Tryd.isAgg26
  z75 := Tryd.sizeOf26
  v75 := Tryd.zeroValue26
  t76 := Tryd.underlying139
  a76 := Tryd.isAgg139
  z76 := Tryd.sizeOf139
  v76 := Tryd.zeroValue139
  t127 := Tryd.underlying126
  a127 := Tryd.isAgg126
  z127 := Tryd.sizeOf126
  v127 := Tryd.zeroValue126
  t164 := Tryd.underlying141
  a164 := Tryd.isAgg141
  z164 := Tryd.sizeOf141
  v164 := Tryd.zeroValue141 }
theorem Tryd.Builder_Extra_156 : Builder.Extra Tryd.prog Tryd.lays156_ren := {
  sizeBuilder := by kernel_rfl
  liesBuilder := by kernel_rfl
  t5 := Tryd.underlying5
  a5 := Tryd.isAgg5
  z5 := Tryd.sizeOf5
  v5 := Tryd.zeroValue5
  infoByte := by kernel_rfl
  cellsByte := by kernel_rfl
  sizeByte := by kernel_rfl
  neB5 := by decide }
open Go.RowKit in
theorem Tryd.strings_Join_none (a : Option Addr) (c : Nat) (sep : ByteArray) (w : World) :
    Calls Tryd.prog 96 #[.slice a 0 c, .string sep] w fun e w' => e = .returned (.string ⟨#[]⟩) ∧ w' = w := Any.strings_Join_none Tryd.lays156 Tryd.Builder_Extra_156 a c sep w
open Go.RowKit in
theorem Tryd.strings_Join (bk o c : Nat) (xs : List ByteArray) (sep : ByteArray) (w : World) (hcells : ∀ (j : Nat) x, xs[j]? = some x → w.cell? ⟨bk, o + j, none⟩ = some (.string x)) (hbk : bk < w.heap.size) (hN : xs.length ≤ 140737488355328) (hcap : xs.length ≤ c) (hlen : (Lib.join (xs.map (·.data.toList)) sep.data.toList).length ≤ 140737488355328) :
    Calls Tryd.prog 96 #[.slice (some ⟨bk, o, none⟩) xs.length c, .string sep] w fun e w' => e = .returned (.string ⟨(Lib.join (xs.map (·.data.toList)) sep.data.toList).toArray⟩) ∧ Below w.heap.size w w' := Any.strings_Join Tryd.lays156 Tryd.Builder_Extra_156 bk o c xs sep w hcells hbk hN hcap hlen
def Tryd.lays137_ren : Go.Shelf.Ren := ⟨fun | 137 => 46 | 217 => 54 | 266 => 58 | n => n, fun | 9 => 9 | 5 => 5 | 3 => 3 | n => n, fun | n => n⟩
theorem Tryd.lays137 : Go.Proofs.Lays.n137 Tryd.prog Tryd.lays137_ren := {
  mixed := by kernel_rfl
  f137 := Tryd.func46.trans (congrArg some (by kernel_rfl))
  f217 := Tryd.func54.trans (congrArg some (by kernel_rfl))
  f266 := Tryd.func58.trans (congrArg some (by kernel_rfl))
  t3 := Tryd.underlying3
  a3 := Tryd.isAgg3
  z3 := Tryd.sizeOf3
  v3 := Tryd.zeroValue3
  t5 := Tryd.underlying5
  a5 := Tryd.isAgg5
  z5 := Tryd.sizeOf5
  v5 := Tryd.zeroValue5
  t9 := Tryd.underlying9
  a9 := Tryd.isAgg9
  z9 := Tryd.sizeOf9
  v9 := Tryd.zeroValue9 }
open Go.RowKit in
theorem Tryd.strings_IndexByte (s : ByteArray) (c : Int) (w : World) :
    Calls Tryd.prog 46 #[.string s, .int .u8 c] w fun e w' => e = .returned (.int .i64 (Lib.indexByte s.data.toList c.toNat.toUInt8)) ∧ w' = w := Any.strings_IndexByte Tryd.lays137 s c w
def Tryd.lays190_ren : Go.Shelf.Ren := ⟨fun | 190 => 26 | 125 => 33 | 258 => 32 | 128 => 44 | 129 => 45 | 302 => 35 | 303 => 36 | 304 => 37 | 305 => 38 | 306 => 39 | 307 => 40 | 308 => 41 | 309 => 42 | 310 => 43 | 333 => 48 | 329 => 49 | 330 => 50 | 334 => 51 | 335 => 52 | 336 => 53 | 344 => 57 | n => n, fun | 31 => 22 | 9 => 9 | 3 => 3 | 46 => 70 | 0 => 0 | 51 => 83 | 53 => 85 | 4 => 4 | 183 => 75 | 182 => 74 | 131 => 80 | 5 => 5 | 218 => 87 | 222 => 91 | 228 => 95 | 229 => 96 | n => n, fun | n => n⟩
theorem Tryd.lays190 : Go.Proofs.Lays.n190 Tryd.prog Tryd.lays190_ren := {
  mixed := by kernel_rfl
  f125 := Tryd.func33.trans (congrArg some (by kernel_rfl))
  f128 := Tryd.func44.trans (congrArg some (by kernel_rfl))
  f129 := Tryd.func45.trans (congrArg some (by kernel_rfl))
  f190 := Tryd.func26.trans (congrArg some (by kernel_rfl))
  f258 := Tryd.func32.trans (congrArg some (by kernel_rfl))
  f302 := Tryd.func35.trans (congrArg some (by kernel_rfl))
  f303 := Tryd.func36.trans (congrArg some (by kernel_rfl))
  f304 := Tryd.func37.trans (congrArg some (by kernel_rfl))
  f305 := Tryd.func38.trans (congrArg some (by kernel_rfl))
  f306 := Tryd.func39.trans (congrArg some (by kernel_rfl))
  f307 := Tryd.func40.trans (congrArg some (by kernel_rfl))
  f308 := Tryd.func41.trans (congrArg some (by kernel_rfl))
  f309 := Tryd.func42.trans (congrArg some (by kernel_rfl))
  f310 := Tryd.func43.trans (congrArg some (by kernel_rfl))
  f329 := Tryd.func49.trans (congrArg some (by kernel_rfl))
  f330 := Tryd.func50.trans (congrArg some (by kernel_rfl))
  f333 := Tryd.func48.trans (congrArg some (by kernel_rfl))
  f334 := Tryd.func51.trans (congrArg some (by kernel_rfl))
  f335 := Tryd.func52.trans (congrArg some (by kernel_rfl))
  f336 := Tryd.func53.trans (congrArg some (by kernel_rfl))
  f344 := Tryd.func57.trans (congrArg some (by kernel_rfl))
  t0 := Tryd.underlying0
  a0 := Tryd.isAgg0
  z0 := Tryd.sizeOf0
  v0 := Tryd.zeroValue0
  t3 := Tryd.underlying3
  a3 := Tryd.isAgg3
  z3 := Tryd.sizeOf3
  v3 := Tryd.zeroValue3
  t4 := Tryd.underlying4
  a4 := Tryd.isAgg4
  z4 := Tryd.sizeOf4
  v4 := Tryd.zeroValue4
  t5 := Tryd.underlying5
  a5 := Tryd.isAgg5
  z5 := Tryd.sizeOf5
  v5 := Tryd.zeroValue5
  t9 := Tryd.underlying9
  a9 := Tryd.isAgg9
  z9 := Tryd.sizeOf9
  v9 := Tryd.zeroValue9
  t31 := Tryd.underlying22
  a31 := Tryd.isAgg22
  z31 := Tryd.sizeOf22
  v31 := Tryd.zeroValue22
  t46 := Tryd.underlying70
  a46 := Tryd.isAgg70
  z46 := Tryd.sizeOf70
  v46 := Tryd.zeroValue70
  t51 := Tryd.underlying83
  a51 := Tryd.isAgg83
  z51 := Tryd.sizeOf83
  v51 := Tryd.zeroValue83
  t53 := Tryd.underlying85
  a53 := Tryd.isAgg85
  z53 := Tryd.sizeOf85
  v53 := Tryd.zeroValue85
  t131 := Tryd.underlying80
  a131 := Tryd.isAgg80
  z131 := Tryd.sizeOf80
  v131 := Tryd.zeroValue80
  t182 := Tryd.underlying74
  a182 := Tryd.isAgg74
  z182 := Tryd.sizeOf74
  v182 := Tryd.zeroValue74
  t183 := Tryd.underlying75
  a183 := Tryd.isAgg75
  z183 := Tryd.sizeOf75
  v183 := Tryd.zeroValue75
  t218 := Tryd.underlying87
  a218 := Tryd.isAgg87
  z218 := Tryd.sizeOf87
  v218 := Tryd.zeroValue87
  t222 := Tryd.underlying91
  a222 := Tryd.isAgg91
  z222 := Tryd.sizeOf91
  v222 := Tryd.zeroValue91
  t228 := Tryd.underlying95
  a228 := Tryd.isAgg95
  z228 := Tryd.sizeOf95
  v228 := Tryd.zeroValue95
  t229 := Tryd.underlying96
  a229 := Tryd.isAgg96
  z229 := Tryd.sizeOf96
  v229 := Tryd.zeroValue96 }
open Go.Sort Go.RowKit in
theorem Tryd.slices_Sort_string (blk off cap : Nat) (ss : List (List UInt8)) (w : World) (hH : Holds encStr w blk off ss.toArray) (hblk : blk < w.heap.size) (hsz : ss.length < 4611686018427387904) :
    Calls Tryd.prog 26 #[.slice (some ⟨blk, off, none⟩) ss.length cap] w fun e w' =>
      e = .returned (.tuple #[]) ∧ ∃ n os, w' = grow (putRow encStr (Sort.ahead w n) blk off (ss.mergeSort fun x y => decide (x ≤ y)).toArray) os := Any.slices_Sort_string Tryd.lays190 blk off cap ss w hH hblk hsz
def Tryd.lays194_ren : Go.Shelf.Ren := ⟨fun | 194 => 27 | n => n, fun | 31 => 22 | 9 => 9 | 3 => 3 | 4 => 4 | 0 => 0 | n => n, fun | n => n⟩
theorem Tryd.lays194 : Go.Proofs.Lays.n194 Tryd.prog Tryd.lays194_ren := {
  mixed := by kernel_rfl
  f194 := Tryd.func27.trans (congrArg some (by kernel_rfl))
  t0 := Tryd.underlying0
  a0 := Tryd.isAgg0
  z0 := Tryd.sizeOf0
  v0 := Tryd.zeroValue0
  t3 := Tryd.underlying3
  a3 := Tryd.isAgg3
  z3 := Tryd.sizeOf3
  v3 := Tryd.zeroValue3
  t4 := Tryd.underlying4
  a4 := Tryd.isAgg4
  z4 := Tryd.sizeOf4
  v4 := Tryd.zeroValue4
  t9 := Tryd.underlying9
  a9 := Tryd.isAgg9
  z9 := Tryd.sizeOf9
  v9 := Tryd.zeroValue9
  t31 := Tryd.underlying22
  a31 := Tryd.isAgg22
  z31 := Tryd.sizeOf22
  v31 := Tryd.zeroValue22 }
open Go.RowKit Go.Lib Go.Sort in
theorem Tryd.slices_Compact_string_arr (blk off cap : Nat) (d : Array (List UInt8)) (w : World) (hH : Holds encStr w blk off d) (hsz : d.size ≤ 9223372036854775807) (hcap : d.size ≤ cap) :
    Calls Tryd.prog 27 #[.slice (some ⟨blk, off, none⟩) d.size cap] w fun e w' => e = .returned (.slice (some ⟨blk, off, none⟩) (compactUpTo d d.size).length cap) ∧ ∃ q, w' = putRow encStr (Sort.ahead w q) blk off (compactUpTo d d.size ++ List.replicate (d.size - (compactUpTo d d.size).length) []).toArray := Any.slices_Compact_string_arr Tryd.lays194 blk off cap d w hH hsz hcap
open Go.RowKit Go.Lib Go.Sort in
theorem Tryd.slices_Compact_string (blk off cap : Nat) (zs : List (List UInt8)) (w : World) (hH : Holds encStr w blk off zs.toArray) (hsz : zs.length ≤ 9223372036854775807) (hcap : zs.length ≤ cap) :
    Calls Tryd.prog 27 #[.slice (some ⟨blk, off, none⟩) zs.length cap] w fun e w' => e = .returned (.slice (some ⟨blk, off, none⟩) (Lib.compact zs).length cap) ∧ ∃ q, w' = putRow encStr (Sort.ahead w q) blk off (Lib.compact zs ++ List.replicate (zs.length - (Lib.compact zs).length) []).toArray := Any.slices_Compact_string Tryd.lays194 blk off cap zs w hH hsz hcap
open Go.RowKit Go.Lib Go.Sort in
theorem Tryd.slices_Compact_string_empty (a : Option Addr) (cap : Nat) (w : World) :
    Calls Tryd.prog 27 #[.slice a 0 cap] w fun e w' => e = .returned (.slice a 0 cap) ∧ w' = w := Any.slices_Compact_string_empty Tryd.lays194 a cap w
open Go.RowKit Go.Sort in
theorem Tryd.slices_Sort_string_none (p : Option Addr) (cap : Nat) (w : World) :
    Calls Tryd.prog 26 #[.slice p 0 cap] w fun e w' => e = .returned (.tuple #[]) ∧ w' = w := Any.slices_Sort_string_none Tryd.lays190 p cap w
end Go.Proofs
namespace Go.Proofs.YtjdfaaccmdajdaaDoor
open Go Go.Sc
theorem ixB (s : Str) (c : UInt8) : FX E Tryd.prog 21 [S s, By c] (Z (idx s c)) := FX.indexByte (show Tryd.prog.funcs[E.fn 21]? = some Tryd.f46 from Tryd.func46) (by kernel_rfl) (by kernel_rfl) Tryd.strings_IndexByte s c
theorem joinB (l : List Str) (sep : Str) (hl : l.length ≤ 140737488355328) (hj : (joinS sep l).length ≤ 140737488355328) : FX E Tryd.prog 118 [Lm S l, S sep] (S (joinS sep l)) := FX.join (show Tryd.prog.funcs[E.fn 118]? = some Tryd.f96 from Tryd.func96) (by kernel_rfl) (by kernel_rfl) Tryd.strings_Join_none Tryd.strings_Join l sep hl hj
theorem sortNB : FX E Tryd.prog 194 [nilS] (.tup []) := FX.sortNil (show Tryd.prog.funcs[E.fn 194]? = some Tryd.f26 from Tryd.func26) (by kernel_rfl) (by kernel_rfl) Tryd.slices_Sort_string_none
theorem sortCB {H : AH} {b g : Nat} {l : List Str} (hl : l.length < 4611686018427387904) (hb : H.bs[b]? = some (.cells g 1 (l.map fun s => S s))) : ACalls E Tryd.prog 194 [.slL b 0 l.length g] H fun r H' => r = .tup [] ∧ H' = ⟨H.bs.set b (.cells g 1 ((sortS l).map fun s => S s)), H.ctr⟩ := sort_calls (show Tryd.prog.funcs[E.fn 194]? = some Tryd.f26 from Tryd.func26) (by kernel_rfl) (by kernel_rfl) Tryd.slices_Sort_string_none Tryd.slices_Sort_string hl hb
theorem compNB : FX E Tryd.prog 195 [nilS] nilS := FX.compactNil (show Tryd.prog.funcs[E.fn 195]? = some Tryd.f27 from Tryd.func27) (by kernel_rfl) (by kernel_rfl) Tryd.slices_Compact_string_empty
theorem compCB {H : AH} {b g : Nat} {l : List Str} (hl : l.length < 4611686018427387904) (hb : H.bs[b]? = some (.cells g 1 (l.map fun s => S s))) : ACalls E Tryd.prog 195 [.slL b 0 l.length g] H fun r H' => r = .slL b 0 (packS l).length g ∧ H' = ⟨H.bs.set b (.cells g 1 ((packS l ++ List.replicate (l.length - (packS l).length) []).map fun s => S s)), H.ctr⟩ := compact_calls (show Tryd.prog.funcs[E.fn 195]? = some Tryd.f27 from Tryd.func27) (by kernel_rfl) (by kernel_rfl) Tryd.slices_Compact_string_empty Tryd.slices_Compact_string hl hb
end Go.Proofs.YtjdfaaccmdajdaaDoor
namespace Go.Sc
open Go Go.ChangeShapes Go.WideShapes Go.ChangeAt Go.RowKit
section
variable {P : Program} {W : World} {E : Env}
theorem laid_struct2 {l : List (String × DataW Unit)} {n : String} {a b : Int} {g : Nat} {ty : TypeId} {f0 f1 : Field} (h : laidMetH P l W) (hm : (n, DataW.agg [.lit (.int .i64 a), .lit (.int .i64 b)]) ∈ l) (hn : P.globalNamed n = some g) (ht : (P.globals[g]?).map (·.type) = some ty)
    (hu : P.underlying ty = some (.struct #[f0, f1])) (e0 : P.underlying f0.type = some (.int .i64)) (e1 : P.underlying f1.type = some (.int .i64)) (o0 : f0.offset = 0) (o1 : f1.offset = 1) (c0 : P.cellsOf f0.type = 1) (c1 : P.cellsOf f1.type = 1) : CRel E (Cx.start W) [Z a, Z b] g 0 := by
  obtain ⟨h1, _⟩ := laidMetH_iff.1 h
  obtain ⟨ps, h2, _⟩ := h1
  obtain ⟨g', t', cs, fuel, p, k1, k2, k3, k4⟩ := laid_at (l := l) h2 (List.mem_filter.2 ⟨hm, by rfl⟩)
  rw [hn] at k1; injection k1 with k1; subst k1
  rw [ht] at k2; injection k2 with k2; subst k2
  obtain ⟨y0, y1, m', hx, hl, x0, x1⟩ := trod_struct2 hu k4
  simp only [World.var?, hn, Option.bind_some] at k3
  split at k3
  · rename_i cs' ty' fr hW
    injection k3 with k3; subst k3
    have hlt : g < W.heap.size := by
      by_cases h : g < W.heap.size
      · exact h
      · rw [Array.getElem?_eq_none (by omega)] at hW; cases hW
    injection hx with hx1 hx2
    injection hx1 with hx1
    injection hx1 with hxa hx1
    injection hx1 with hxb _
    rw [o0, c0] at x0
    rw [o1, c1] at x1
    obtain ⟨w0, hw0, hv0, _⟩ := DataW.trod_int e0 x0
    obtain ⟨w1, hw1, hv1, _⟩ := DataW.trod_int e1 x1
    rw [hv0] at hxa
    rw [hv1] at hxb
    injection hxa with hxa
    injection hxa with _ hxa
    injection hxb with hxb
    injection hxb with _ hxb
    subst hxa; subst hxb
    have q0 : cs'.toList[0]? = some (.int .i64 a) := by
      have := congrArg (·[0]?) hw0
      simpa using this
    have q1 : cs'.toList[1]? = some (.int .i64 b) := by
      have := congrArg (·[0]?) hw1
      simp only [List.getElem?_take, List.getElem?_drop, List.getElem?_cons_zero] at this
      simpa using this
    refine crel_start hlt fun i y hi => ?_
    match i with
    | 0 => simp only [List.getElem?_cons_zero, Option.some.injEq] at hi; subst hi; exact ⟨.int .i64 a, by simp only [World.cell?, hW]; simpa using q0, by simp [VRel]⟩
    | 1 => simp only [List.getElem?_cons_succ, List.getElem?_cons_zero, Option.some.injEq] at hi; subst hi; exact ⟨.int .i64 b, by simp only [World.cell?, hW]; simpa using q1, by simp [VRel]⟩
    | i + 2 => simp at hi
  · cases k3
end
theorem least_isNone (l : List String) : (Instr.least l).isNone = l.isEmpty := by
  cases l <;> simp [Instr.least]
theorem missing_isNone (want : Array (String × TypeId)) (got : Array Method) : (Instr.missingMethod want got).isNone = want.toList.all fun x => got.any fun m => m.name == x.1 && m.sig == x.2 := by
  unfold Instr.missingMethod
  generalize hm : (want.toList.filter _).map (·.1) = missing
  have h1 : (want.toList.all fun x => got.any fun m => m.name == x.1 && m.sig == x.2) = missing.isEmpty := by
    rw [← hm]
    generalize want.toList = l
    induction l with
    | nil => rfl
    | cons a l ih =>
      simp only [List.all_cons, List.filter_cons]
      cases h : (got.any fun m => m.name == a.1 && m.sig == a.2) with
      | true => simpa [h] using ih
      | false => simp
  rw [h1]
  simp only
  rw [List.partition_eq_filter_filter]
  simp only
  cases missing with
  | nil => simp [Instr.least]
  | cons s l =>
    simp only [List.isEmpty_cons]
    cases he : Instr.least (List.filter (not ∘ fun x => String.contains x '.') (s :: l)) with
    | some y => rfl
    | none =>
      have h2 := least_isNone (List.filter (not ∘ fun x => String.contains x '.') (s :: l))
      rw [he] at h2
      simp only [Option.isNone_none, Bool.true_eq, List.isEmpty_iff, List.filter_eq_nil_iff] at h2
      have h3 := h2 s (by simp)
      have h4 : (s.contains '.') = true := by simpa using h3
      show (Instr.least _).isNone = false
      rw [least_isNone]
      simp only [List.filter_cons, h4, if_true, List.map_cons, List.isEmpty_cons]
def hasMB (E : Env) (P : Program) (kt k : Nat) (b : Bool) : Bool :=
  match P.underlying (E.ty kt) with
  | some (.interface want) => (match P.info? (E.ty k) with
    | some i => (want.toList.all fun x => i.methods.any fun m => m.name == x.1 && m.sig == x.2) == b
    | none => false)
  | _ => true
theorem HasM.of {E : Env} {P : Program} {kt k : Nat} {b : Bool} (h : hasMB E P kt k b = true) : HasM E P kt k b := fun want hw => by
  unfold hasMB at h
  rw [hw] at h
  simp only at h
  split at h
  · rename_i i hi
    exact ⟨i, hi, by rw [missing_isNone]; simpa using h⟩
  · cases h
end Go.Sc
