/- The table of the types that this claim's functions name: written by a program of this session. -/
import Derived.Test.YtmnahdoomnbdoaaAbB
import Derived.Test.YtmnahdoomnbdoaaProg
set_option linter.unusedVariables false
set_option linter.unusedSimpArgs false
namespace Go.Proofs.Ytmnahdoomnbdoaa.Ab
open Go
def t3 : TI := ⟨.int .i64, 1, 8, .int .i64 0⟩
def t4 : TI := ⟨.bool, 1, 1, .bool false⟩
def t22 : TI := ⟨.slice 3, 1, 24, .slice none 0 0⟩
def t28 : TI := ⟨.struct #[⟨ "Neg", 4, 0, false, "", "", 0⟩, ⟨ "Mag", 22, 1, false, "", "", 8⟩], 2, 32, .agg #[.bool false, .slice none 0 0]⟩
def t31 : TI := ⟨.struct #[⟨ "Neg", 4, 0, false, "", "", 0⟩, ⟨ "Mag", 22, 1, false, "", "", 8⟩], 2, 32, .agg #[.bool false, .slice none 0 0]⟩
def t41 : TI := ⟨.slice 70, 1, 24, .slice none 0 0⟩
def t44 : TI := ⟨.slice 56, 1, 24, .slice none 0 0⟩
def t48 : TI := ⟨.struct #[⟨ "Rows", 3, 0, false, "", "", 0⟩, ⟨ "Cols", 3, 1, false, "", "", 8⟩, ⟨ "Cells", 41, 2, false, "", "", 16⟩], 3, 40, .agg #[.int .i64 0, .int .i64 0, .slice none 0 0]⟩
def t52 : TI := ⟨.struct #[⟨ "Rows", 3, 0, false, "", "", 0⟩, ⟨ "Cols", 3, 1, false, "", "", 8⟩, ⟨ "Cells", 44, 2, false, "", "", 16⟩], 3, 40, .agg #[.int .i64 0, .int .i64 0, .slice none 0 0]⟩
def t56 : TI := ⟨.struct #[⟨ "Num", 31, 0, false, "", "", 0⟩, ⟨ "Den", 22, 2, false, "", "", 32⟩], 3, 56, .agg #[.bool false, .slice none 0 0, .slice none 0 0]⟩
def t70 : TI := ⟨.struct #[⟨ "Num", 28, 0, false, "", "", 0⟩, ⟨ "Den", 22, 2, false, "", "", 32⟩], 3, 56, .agg #[.bool false, .slice none 0 0, .slice none 0 0]⟩
def t74 : TI := ⟨.pointer 82, 1, 8, .pointer none⟩
def t79 : TI := ⟨.int .u64, 1, 8, .int .u64 0⟩
def t82 : TI := ⟨.struct #[⟨ "num", 31, 0, false, "", "loop.example/g00830/impl", 0⟩, ⟨ "den", 22, 2, false, "", "loop.example/g00830/impl", 32⟩], 3, 56, .agg #[.bool false, .slice none 0 0, .slice none 0 0]⟩
def te : TE := [(3, t3), (4, t4), (22, t22), (28, t28), (31, t31), (41, t41), (44, t44), (48, t48), (52, t52), (56, t56), (70, t70), (74, t74), (79, t79), (82, t82)]
set_option maxRecDepth 100000 in
theorem teOk : TEok Try.prog te := TEok.of_all ⟨TI.mk_ok (by kernel_rfl) (by kernel_rfl), TI.mk_ok (by kernel_rfl) (by kernel_rfl), TI.mk_ok (by kernel_rfl) (by kernel_rfl), TI.mk_ok (by kernel_rfl) (by kernel_rfl), TI.mk_ok (by kernel_rfl) (by kernel_rfl), TI.mk_ok (by kernel_rfl) (by kernel_rfl), TI.mk_ok (by kernel_rfl) (by kernel_rfl), TI.mk_ok (by kernel_rfl) (by kernel_rfl), TI.mk_ok (by kernel_rfl) (by kernel_rfl), TI.mk_ok (by kernel_rfl) (by kernel_rfl), TI.mk_ok (by kernel_rfl) (by kernel_rfl), TI.mk_ok (by kernel_rfl) (by kernel_rfl), TI.mk_ok (by kernel_rfl) (by kernel_rfl), TI.mk_ok (by kernel_rfl) (by kernel_rfl), trivial⟩
section
variable {fr : Fr} {σ : Sto}
theorem o_al31 : opA te fr σ (.alloc 31) = .new ⟨31, [.v (.bool false), .v (.slice none 0 0)]⟩ (.p σ.length 0) := alloc_eq rfl rfl
theorem o_al52 : opA te fr σ (.alloc 52) = .new ⟨52, [.v (.int .i64 0), .v (.int .i64 0), .v (.slice none 0 0)]⟩ (.p σ.length 0) := alloc_eq rfl rfl
theorem o_al56 : opA te fr σ (.alloc 56) = .new ⟨56, [.v (.bool false), .v (.slice none 0 0), .v (.slice none 0 0)]⟩ (.p σ.length 0) := alloc_eq rfl rfl
theorem o_ap22 (x y : Operand) : opA te fr σ (.call ⟨.builtin .append, #[x, y], #[22, 22]⟩) = apA 3 8 1 σ (ev fr x) (ev fr y) := ap_eq (i := t22) (j := t3) (el := 3) (bytes := 8) (sz := 1) rfl rfl rfl rfl rfl rfl rfl x y
theorem o_bi22 (op : BinOp) (x y : Operand) (z : Nat) : opA te fr σ (.binOp op 22 x y z) = o2 (binA t22 op) (ev fr x) (ev fr y) := bin_eq rfl op x y z
theorem o_bi3 (op : BinOp) (x y : Operand) (z : Nat) : opA te fr σ (.binOp op 3 x y z) = o2 (binA t3 op) (ev fr x) (ev fr y) := bin_eq rfl op x y z
theorem o_bi4 (op : BinOp) (x y : Operand) (z : Nat) : opA te fr σ (.binOp op 4 x y z) = o2 (binA t4 op) (ev fr x) (ev fr y) := bin_eq rfl op x y z
theorem o_bi74 (op : BinOp) (x y : Operand) (z : Nat) : opA te fr σ (.binOp op 74 x y z) = o2 (binA t74 op) (ev fr x) (ev fr y) := bin_eq rfl op x y z
theorem o_bi79 (op : BinOp) (x y : Operand) (z : Nat) : opA te fr σ (.binOp op 79 x y z) = o2 (binA t79 op) (ev fr x) (ev fr y) := bin_eq rfl op x y z
theorem o_bs22_0 (a : Array (Nat × Operand)) : opA te fr σ (.buildSlice 22 0 a) = bsl 3 σ.length 0 1 [] (evp fr a.toList) := bs_eq (i := t22) (j := t3) (el := 3) (sz := 1) rfl rfl rfl rfl rfl 0 rfl rfl a
theorem o_bs22_1 (a : Array (Nat × Operand)) : opA te fr σ (.buildSlice 22 1 a) = bsl 3 σ.length 1 1 [.v (.int .i64 0)] (evp fr a.toList) := bs_eq (i := t22) (j := t3) (el := 3) (sz := 1) rfl rfl rfl rfl rfl 1 rfl rfl a
theorem o_bs22_3 (a : Array (Nat × Operand)) : opA te fr σ (.buildSlice 22 3 a) = bsl 3 σ.length 3 1 [.v (.int .i64 0), .v (.int .i64 0), .v (.int .i64 0)] (evp fr a.toList) := bs_eq (i := t22) (j := t3) (el := 3) (sz := 1) rfl rfl rfl rfl rfl 3 rfl rfl a
theorem o_bu31 (a : Array (Nat × Operand)) : opA te fr σ (.build 31 a) = bld [.v (.bool false), .v (.slice none 0 0)] [(0, 1), (1, 1)] (evp fr a.toList) := build_eq (i := t31) (ps := [(0, 1), (1, 1)]) rfl rfl rfl rfl a
theorem o_bu56 (a : Array (Nat × Operand)) : opA te fr σ (.build 56 a) = bld [.v (.bool false), .v (.slice none 0 0), .v (.slice none 0 0)] [(0, 2), (2, 1)] (evp fr a.toList) := build_eq (i := t56) (ps := [(0, 2), (2, 1)]) rfl rfl rfl rfl a
theorem o_bu82 (a : Array (Nat × Operand)) : opA te fr σ (.build 82 a) = bld [.v (.bool false), .v (.slice none 0 0), .v (.slice none 0 0)] [(0, 2), (2, 1)] (evp fr a.toList) := build_eq (i := t82) (ps := [(0, 2), (2, 1)]) rfl rfl rfl rfl a
theorem o_cv3_79 (x : Operand) : opA te fr σ (.convert 3 79 x) = o1 (convA t79) (ev fr x) := cv_eq rfl rfl x
theorem o_cv79_3 (x : Operand) : opA te fr σ (.convert 79 3 x) = o1 (convA t3) (ev fr x) := cv_eq rfl rfl x
theorem o_fa28_0 (x : Operand) : opA te fr σ (.fieldAddr 28 x 0) = faA 0 (ev fr x) := fa_eq (i := t28) (j := t4) (off := 0) rfl rfl rfl rfl rfl x
theorem o_fa28_1 (x : Operand) : opA te fr σ (.fieldAddr 28 x 1) = faA 1 (ev fr x) := fa_eq (i := t28) (j := t22) (off := 1) rfl rfl rfl rfl rfl x
theorem o_fa31_0 (x : Operand) : opA te fr σ (.fieldAddr 31 x 0) = faA 0 (ev fr x) := fa_eq (i := t31) (j := t4) (off := 0) rfl rfl rfl rfl rfl x
theorem o_fa31_1 (x : Operand) : opA te fr σ (.fieldAddr 31 x 1) = faA 1 (ev fr x) := fa_eq (i := t31) (j := t22) (off := 1) rfl rfl rfl rfl rfl x
theorem o_fa48_0 (x : Operand) : opA te fr σ (.fieldAddr 48 x 0) = faA 0 (ev fr x) := fa_eq (i := t48) (j := t3) (off := 0) rfl rfl rfl rfl rfl x
theorem o_fa48_1 (x : Operand) : opA te fr σ (.fieldAddr 48 x 1) = faA 1 (ev fr x) := fa_eq (i := t48) (j := t3) (off := 1) rfl rfl rfl rfl rfl x
theorem o_fa48_2 (x : Operand) : opA te fr σ (.fieldAddr 48 x 2) = faA 2 (ev fr x) := fa_eq (i := t48) (j := t41) (off := 2) rfl rfl rfl rfl rfl x
theorem o_fa52_0 (x : Operand) : opA te fr σ (.fieldAddr 52 x 0) = faA 0 (ev fr x) := fa_eq (i := t52) (j := t3) (off := 0) rfl rfl rfl rfl rfl x
theorem o_fa52_1 (x : Operand) : opA te fr σ (.fieldAddr 52 x 1) = faA 1 (ev fr x) := fa_eq (i := t52) (j := t3) (off := 1) rfl rfl rfl rfl rfl x
theorem o_fa52_2 (x : Operand) : opA te fr σ (.fieldAddr 52 x 2) = faA 2 (ev fr x) := fa_eq (i := t52) (j := t44) (off := 2) rfl rfl rfl rfl rfl x
theorem o_fa56_0 (x : Operand) : opA te fr σ (.fieldAddr 56 x 0) = faA 0 (ev fr x) := fa_eq (i := t56) (j := t31) (off := 0) rfl rfl rfl rfl rfl x
theorem o_fa56_1 (x : Operand) : opA te fr σ (.fieldAddr 56 x 1) = faA 2 (ev fr x) := fa_eq (i := t56) (j := t22) (off := 2) rfl rfl rfl rfl rfl x
theorem o_fa70_0 (x : Operand) : opA te fr σ (.fieldAddr 70 x 0) = faA 0 (ev fr x) := fa_eq (i := t70) (j := t28) (off := 0) rfl rfl rfl rfl rfl x
theorem o_fa70_1 (x : Operand) : opA te fr σ (.fieldAddr 70 x 1) = faA 2 (ev fr x) := fa_eq (i := t70) (j := t22) (off := 2) rfl rfl rfl rfl rfl x
theorem o_fa82_0 (x : Operand) : opA te fr σ (.fieldAddr 82 x 0) = faA 0 (ev fr x) := fa_eq (i := t82) (j := t31) (off := 0) rfl rfl rfl rfl rfl x
theorem o_fa82_1 (x : Operand) : opA te fr σ (.fieldAddr 82 x 1) = faA 2 (ev fr x) := fa_eq (i := t82) (j := t22) (off := 2) rfl rfl rfl rfl rfl x
theorem o_ia22 (x y : Operand) : opA te fr σ (.indexAddr 22 x y) = iaA 1 (ev fr x) (ev fr y) := ia_eq (i := t22) (j := t3) rfl rfl rfl rfl x y
theorem o_ia41 (x y : Operand) : opA te fr σ (.indexAddr 41 x y) = iaA 3 (ev fr x) (ev fr y) := ia_eq (i := t41) (j := t70) rfl rfl rfl rfl x y
theorem o_ia44 (x y : Operand) : opA te fr σ (.indexAddr 44 x y) = iaA 3 (ev fr x) (ev fr y) := ia_eq (i := t44) (j := t56) rfl rfl rfl rfl x y
theorem o_ld22 (x : Operand) : opA te fr σ (.load 22 x) = ld1 σ (ev fr x) := ld1_eq rfl rfl x
theorem o_ld28 (x : Operand) : opA te fr σ (.load 28 x) = ldn 2 σ (ev fr x) := ldn_eq (i := t28) rfl rfl rfl x
theorem o_ld3 (x : Operand) : opA te fr σ (.load 3 x) = ld1 σ (ev fr x) := ld1_eq rfl rfl x
theorem o_ld31 (x : Operand) : opA te fr σ (.load 31 x) = ldn 2 σ (ev fr x) := ldn_eq (i := t31) rfl rfl rfl x
theorem o_ld4 (x : Operand) : opA te fr σ (.load 4 x) = ld1 σ (ev fr x) := ld1_eq rfl rfl x
theorem o_ld41 (x : Operand) : opA te fr σ (.load 41 x) = ld1 σ (ev fr x) := ld1_eq rfl rfl x
theorem o_ld44 (x : Operand) : opA te fr σ (.load 44 x) = ld1 σ (ev fr x) := ld1_eq rfl rfl x
theorem o_ld48 (x : Operand) : opA te fr σ (.load 48 x) = ldn 3 σ (ev fr x) := ldn_eq (i := t48) rfl rfl rfl x
theorem o_ld52 (x : Operand) : opA te fr σ (.load 52 x) = ldn 3 σ (ev fr x) := ldn_eq (i := t52) rfl rfl rfl x
theorem o_ld56 (x : Operand) : opA te fr σ (.load 56 x) = ldn 3 σ (ev fr x) := ldn_eq (i := t56) rfl rfl rfl x
theorem o_ld70 (x : Operand) : opA te fr σ (.load 70 x) = ldn 3 σ (ev fr x) := ldn_eq (i := t70) rfl rfl rfl x
theorem o_ln22 (x : Operand) : opA te fr σ (.call ⟨.builtin .len, #[x], #[22]⟩) = lnA (ev fr x) := ln_eq rfl rfl x
theorem o_ln41 (x : Operand) : opA te fr σ (.call ⟨.builtin .len, #[x], #[41]⟩) = lnA (ev fr x) := ln_eq rfl rfl x
theorem o_ln44 (x : Operand) : opA te fr σ (.call ⟨.builtin .len, #[x], #[44]⟩) = lnA (ev fr x) := ln_eq rfl rfl x
theorem o_mk22 (x y : Operand) : opA te fr σ (.makeSlice 22 x y) = mkB 3 8 1 σ.length [.v (.int .i64 0)] (ev fr x) (ev fr y) := mk_eq (i := t22) (j := t3) (el := 3) (bytes := 8) (sz := 1) rfl rfl rfl rfl rfl rfl rfl rfl x y
theorem o_mk44 (x y : Operand) : opA te fr σ (.makeSlice 44 x y) = mkB 56 56 3 σ.length [.v (.bool false), .v (.slice none 0 0), .v (.slice none 0 0)] (ev fr x) (ev fr y) := mk_eq (i := t44) (j := t56) (el := 56) (bytes := 56) (sz := 3) rfl rfl rfl rfl rfl rfl rfl rfl x y
theorem o_sl22 (x : Operand) (lo hi : Option Operand) : opA te fr σ (.slice 22 x lo hi none) = slcA 1 (ev fr x) (evo fr lo) (evo fr hi) := sl_eq (i := t22) (j := t3) rfl rfl rfl rfl x lo hi
theorem o_st22 (x y : Operand) : opA te fr σ (.store 22 x y) = stS 1 σ (ev fr x) (ev fr y) := st_eq (i := t22) rfl rfl x y
theorem o_st3 (x y : Operand) : opA te fr σ (.store 3 x y) = stS 1 σ (ev fr x) (ev fr y) := st_eq (i := t3) rfl rfl x y
theorem o_st31 (x y : Operand) : opA te fr σ (.store 31 x y) = stS 2 σ (ev fr x) (ev fr y) := st_eq (i := t31) rfl rfl x y
theorem o_st4 (x y : Operand) : opA te fr σ (.store 4 x y) = stS 1 σ (ev fr x) (ev fr y) := st_eq (i := t4) rfl rfl x y
theorem o_st44 (x y : Operand) : opA te fr σ (.store 44 x y) = stS 1 σ (ev fr x) (ev fr y) := st_eq (i := t44) rfl rfl x y
theorem o_st52 (x y : Operand) : opA te fr σ (.store 52 x y) = stS 3 σ (ev fr x) (ev fr y) := st_eq (i := t52) rfl rfl x y
theorem o_st56 (x y : Operand) : opA te fr σ (.store 56 x y) = stS 3 σ (ev fr x) (ev fr y) := st_eq (i := t56) rfl rfl x y
theorem o_cn3 (k : IntKind) (n : Int) : convA t3 (.v (.int k n)) = .val (.v (.int .i64 (IntKind.wrap .i64 n))) := rfl
theorem o_ib4 : isBool t4.desc = true := rfl
theorem o_zb22 {c : Fr → Sto → Prop} (d nm : Nat) : zB te d nm fr σ c (some 22) = c (put d (.sl nm 0 0 1) fr) σ := rfl
theorem o_zb41 {c : Fr → Sto → Prop} (d nm : Nat) : zB te d nm fr σ c (some 41) = c (put d (.sl nm 0 0 3) fr) σ := rfl
theorem o_zb44 {c : Fr → Sto → Prop} (d nm : Nat) : zB te d nm fr σ c (some 44) = c (put d (.sl nm 0 0 3) fr) σ := rfl
theorem o_ip74 : isPtr t74.desc = true := rfl
theorem o_cn79 (k : IntKind) (n : Int) : convA t79 (.v (.int k n)) = .val (.v (.int .u64 (IntKind.wrap .u64 n))) := rfl
end

-- NAMES o_al31 o_al52 o_al56 o_ap22 o_bi22 o_bi3 o_bi4 o_bi74 o_bi79 o_bs22_0 o_bs22_1 o_bs22_3 o_bu31 o_bu56 o_bu82 o_cn3 o_cn79 o_cv3_79 o_cv79_3 o_fa28_0 o_fa28_1 o_fa31_0 o_fa31_1 o_fa48_0 o_fa48_1 o_fa48_2 o_fa52_0 o_fa52_1 o_fa52_2 o_fa56_0 o_fa56_1 o_fa70_0 o_fa70_1 o_fa82_0 o_fa82_1 o_ia22 o_ia41 o_ia44 o_ib4 o_ip74 o_ld22 o_ld28 o_ld3 o_ld31 o_ld4 o_ld41 o_ld44 o_ld48 o_ld52 o_ld56 o_ld70 o_ln22 o_ln41 o_ln44 o_mk22 o_mk44 o_sl22 o_st22 o_st3 o_st31 o_st4 o_st44 o_st52 o_st56 o_zb22 o_zb41 o_zb44
theorem mixedOk : Try.prog.follows .mixedOrders = true := by kernel_rfl
end Go.Proofs.Ytmnahdoomnbdoaa.Ab
