/- The table of the types that this claim's functions name: written by a program of this session. -/
import Derived.Test.YtbblhgldfcodfaaAbB
import Derived.Test.YtbblhgldfcodfaaProg
set_option linter.unusedVariables false
set_option linter.unusedSimpArgs false
namespace Go.Proofs.Ytbblhgldfcodfaa.Ab
open Go
def t3 : TI := ⟨.int .i64, 1, 8, .int .i64 0⟩
def t4 : TI := ⟨.bool, 1, 1, .bool false⟩
def t22 : TI := ⟨.slice 3, 1, 24, .slice none 0 0⟩
def t24 : TI := ⟨.struct #[⟨ "Neg", 4, 0, false, "", "", 0⟩, ⟨ "Mag", 22, 1, false, "", "", 8⟩], 2, 32, .agg #[.bool false, .slice none 0 0]⟩
def t26 : TI := ⟨.struct #[⟨ "Num", 24, 0, false, "", "", 0⟩, ⟨ "Den", 22, 2, false, "", "", 32⟩], 3, 56, .agg #[.bool false, .slice none 0 0, .slice none 0 0]⟩
def t28 : TI := ⟨.struct #[⟨ "Neg", 4, 0, false, "", "", 0⟩, ⟨ "Mag", 22, 1, false, "", "", 8⟩], 2, 32, .agg #[.bool false, .slice none 0 0]⟩
def t30 : TI := ⟨.struct #[⟨ "Num", 28, 0, false, "", "", 0⟩, ⟨ "Den", 22, 2, false, "", "", 32⟩], 3, 56, .agg #[.bool false, .slice none 0 0, .slice none 0 0]⟩
def t36 : TI := ⟨.slice 26, 1, 24, .slice none 0 0⟩
def t38 : TI := ⟨.struct #[⟨ "Rows", 3, 0, false, "", "", 0⟩, ⟨ "Cols", 3, 1, false, "", "", 8⟩, ⟨ "Cells", 36, 2, false, "", "", 16⟩], 3, 40, .agg #[.int .i64 0, .int .i64 0, .slice none 0 0]⟩
def t41 : TI := ⟨.slice 30, 1, 24, .slice none 0 0⟩
def t43 : TI := ⟨.struct #[⟨ "Rows", 3, 0, false, "", "", 0⟩, ⟨ "Cols", 3, 1, false, "", "", 8⟩, ⟨ "Cells", 41, 2, false, "", "", 16⟩], 3, 40, .agg #[.int .i64 0, .int .i64 0, .slice none 0 0]⟩
def t68 : TI := ⟨.pointer 98, 1, 8, .pointer none⟩
def t78 : TI := ⟨.slice 84, 1, 24, .slice none 0 0⟩
def t80 : TI := ⟨.struct #[⟨ "rows", 3, 0, false, "", "loop.example/g00830/impl", 0⟩, ⟨ "cols", 3, 1, false, "", "loop.example/g00830/impl", 8⟩, ⟨ "cells", 78, 2, false, "", "loop.example/g00830/impl", 16⟩], 3, 40, .agg #[.int .i64 0, .int .i64 0, .slice none 0 0]⟩
def t84 : TI := ⟨.slice 68, 1, 24, .slice none 0 0⟩
def t98 : TI := ⟨.struct #[⟨ "num", 28, 0, false, "", "loop.example/g00830/impl", 0⟩, ⟨ "den", 22, 2, false, "", "loop.example/g00830/impl", 32⟩], 3, 56, .agg #[.bool false, .slice none 0 0, .slice none 0 0]⟩
def t120 : TI := ⟨.int .u64, 1, 8, .int .u64 0⟩
def te : TE := [(3, t3), (4, t4), (22, t22), (24, t24), (26, t26), (28, t28), (30, t30), (36, t36), (38, t38), (41, t41), (43, t43), (68, t68), (78, t78), (80, t80), (84, t84), (98, t98), (120, t120)]
set_option maxRecDepth 100000 in
theorem teOk : TEok Try.prog te := TEok.of_all ⟨TI.mk_ok (by kernel_rfl) (by kernel_rfl), TI.mk_ok (by kernel_rfl) (by kernel_rfl), TI.mk_ok (by kernel_rfl) (by kernel_rfl), TI.mk_ok (by kernel_rfl) (by kernel_rfl), TI.mk_ok (by kernel_rfl) (by kernel_rfl), TI.mk_ok (by kernel_rfl) (by kernel_rfl), TI.mk_ok (by kernel_rfl) (by kernel_rfl), TI.mk_ok (by kernel_rfl) (by kernel_rfl), TI.mk_ok (by kernel_rfl) (by kernel_rfl), TI.mk_ok (by kernel_rfl) (by kernel_rfl), TI.mk_ok (by kernel_rfl) (by kernel_rfl), TI.mk_ok (by kernel_rfl) (by kernel_rfl), TI.mk_ok (by kernel_rfl) (by kernel_rfl), TI.mk_ok (by kernel_rfl) (by kernel_rfl), TI.mk_ok (by kernel_rfl) (by kernel_rfl), TI.mk_ok (by kernel_rfl) (by kernel_rfl), TI.mk_ok (by kernel_rfl) (by kernel_rfl), trivial⟩
section
variable {fr : Fr} {σ : Sto}
theorem o_al28 : opA te fr σ (.alloc 28) = .new ⟨28, [.v (.bool false), .v (.slice none 0 0)]⟩ (.p σ.length 0) := alloc_eq rfl rfl
theorem o_al30 : opA te fr σ (.alloc 30) = .new ⟨30, [.v (.bool false), .v (.slice none 0 0), .v (.slice none 0 0)]⟩ (.p σ.length 0) := alloc_eq rfl rfl
theorem o_al43 : opA te fr σ (.alloc 43) = .new ⟨43, [.v (.int .i64 0), .v (.int .i64 0), .v (.slice none 0 0)]⟩ (.p σ.length 0) := alloc_eq rfl rfl
theorem o_al80 : opA te fr σ (.alloc 80) = .new ⟨80, [.v (.int .i64 0), .v (.int .i64 0), .v (.slice none 0 0)]⟩ (.p σ.length 0) := alloc_eq rfl rfl
theorem o_al84 : opA te fr σ (.alloc 84) = .new ⟨84, [.v (.slice none 0 0)]⟩ (.p σ.length 0) := alloc_eq rfl rfl
theorem o_ap22 (x y : Operand) : opA te fr σ (.call ⟨.builtin .append, #[x, y], #[22, 22]⟩) = apA 3 8 1 σ (ev fr x) (ev fr y) := ap_eq (i := t22) (j := t3) (el := 3) (bytes := 8) (sz := 1) rfl rfl rfl rfl rfl rfl rfl x y
theorem o_ap41 (x y : Operand) : opA te fr σ (.call ⟨.builtin .append, #[x, y], #[41, 41]⟩) = apA 30 56 3 σ (ev fr x) (ev fr y) := ap_eq (i := t41) (j := t30) (el := 30) (bytes := 56) (sz := 3) rfl rfl rfl rfl rfl rfl rfl x y
theorem o_bi120 (op : BinOp) (x y : Operand) (z : Nat) : opA te fr σ (.binOp op 120 x y z) = o2 (binA t120 op) (ev fr x) (ev fr y) := bin_eq rfl op x y z
theorem o_bi22 (op : BinOp) (x y : Operand) (z : Nat) : opA te fr σ (.binOp op 22 x y z) = o2 (binA t22 op) (ev fr x) (ev fr y) := bin_eq rfl op x y z
theorem o_bi3 (op : BinOp) (x y : Operand) (z : Nat) : opA te fr σ (.binOp op 3 x y z) = o2 (binA t3 op) (ev fr x) (ev fr y) := bin_eq rfl op x y z
theorem o_bi4 (op : BinOp) (x y : Operand) (z : Nat) : opA te fr σ (.binOp op 4 x y z) = o2 (binA t4 op) (ev fr x) (ev fr y) := bin_eq rfl op x y z
theorem o_bi68 (op : BinOp) (x y : Operand) (z : Nat) : opA te fr σ (.binOp op 68 x y z) = o2 (binA t68 op) (ev fr x) (ev fr y) := bin_eq rfl op x y z
theorem o_bs22_0 (a : Array (Nat × Operand)) : opA te fr σ (.buildSlice 22 0 a) = bsl 3 σ.length 0 1 [] (evp fr a.toList) := bs_eq (i := t22) (j := t3) (el := 3) (sz := 1) rfl rfl rfl rfl rfl 0 rfl rfl a
theorem o_bs22_1 (a : Array (Nat × Operand)) : opA te fr σ (.buildSlice 22 1 a) = bsl 3 σ.length 1 1 [.v (.int .i64 0)] (evp fr a.toList) := bs_eq (i := t22) (j := t3) (el := 3) (sz := 1) rfl rfl rfl rfl rfl 1 rfl rfl a
theorem o_bs22_3 (a : Array (Nat × Operand)) : opA te fr σ (.buildSlice 22 3 a) = bsl 3 σ.length 3 1 [.v (.int .i64 0), .v (.int .i64 0), .v (.int .i64 0)] (evp fr a.toList) := bs_eq (i := t22) (j := t3) (el := 3) (sz := 1) rfl rfl rfl rfl rfl 3 rfl rfl a
theorem o_bs41_0 (a : Array (Nat × Operand)) : opA te fr σ (.buildSlice 41 0 a) = bsl 30 σ.length 0 3 [] (evp fr a.toList) := bs_eq (i := t41) (j := t30) (el := 30) (sz := 3) rfl rfl rfl rfl rfl 0 rfl rfl a
theorem o_bs41_1 (a : Array (Nat × Operand)) : opA te fr σ (.buildSlice 41 1 a) = bsl 30 σ.length 1 3 [.v (.bool false), .v (.slice none 0 0), .v (.slice none 0 0)] (evp fr a.toList) := bs_eq (i := t41) (j := t30) (el := 30) (sz := 3) rfl rfl rfl rfl rfl 1 rfl rfl a
theorem o_bu28 (a : Array (Nat × Operand)) : opA te fr σ (.build 28 a) = bld [.v (.bool false), .v (.slice none 0 0)] [(0, 1), (1, 1)] (evp fr a.toList) := build_eq (i := t28) (ps := [(0, 1), (1, 1)]) rfl rfl rfl rfl a
theorem o_bu30 (a : Array (Nat × Operand)) : opA te fr σ (.build 30 a) = bld [.v (.bool false), .v (.slice none 0 0), .v (.slice none 0 0)] [(0, 2), (2, 1)] (evp fr a.toList) := build_eq (i := t30) (ps := [(0, 2), (2, 1)]) rfl rfl rfl rfl a
theorem o_bu43 (a : Array (Nat × Operand)) : opA te fr σ (.build 43 a) = bld [.v (.int .i64 0), .v (.int .i64 0), .v (.slice none 0 0)] [(0, 1), (1, 1), (2, 1)] (evp fr a.toList) := build_eq (i := t43) (ps := [(0, 1), (1, 1), (2, 1)]) rfl rfl rfl rfl a
theorem o_bu80 (a : Array (Nat × Operand)) : opA te fr σ (.build 80 a) = bld [.v (.int .i64 0), .v (.int .i64 0), .v (.slice none 0 0)] [(0, 1), (1, 1), (2, 1)] (evp fr a.toList) := build_eq (i := t80) (ps := [(0, 1), (1, 1), (2, 1)]) rfl rfl rfl rfl a
theorem o_bu98 (a : Array (Nat × Operand)) : opA te fr σ (.build 98 a) = bld [.v (.bool false), .v (.slice none 0 0), .v (.slice none 0 0)] [(0, 2), (2, 1)] (evp fr a.toList) := build_eq (i := t98) (ps := [(0, 2), (2, 1)]) rfl rfl rfl rfl a
theorem o_cv120_3 (x : Operand) : opA te fr σ (.convert 120 3 x) = o1 (convA t3) (ev fr x) := cv_eq rfl rfl x
theorem o_cv3_120 (x : Operand) : opA te fr σ (.convert 3 120 x) = o1 (convA t120) (ev fr x) := cv_eq rfl rfl x
theorem o_fa24_0 (x : Operand) : opA te fr σ (.fieldAddr 24 x 0) = faA 0 (ev fr x) := fa_eq (i := t24) (j := t4) (off := 0) rfl rfl rfl rfl rfl x
theorem o_fa24_1 (x : Operand) : opA te fr σ (.fieldAddr 24 x 1) = faA 1 (ev fr x) := fa_eq (i := t24) (j := t22) (off := 1) rfl rfl rfl rfl rfl x
theorem o_fa26_0 (x : Operand) : opA te fr σ (.fieldAddr 26 x 0) = faA 0 (ev fr x) := fa_eq (i := t26) (j := t24) (off := 0) rfl rfl rfl rfl rfl x
theorem o_fa26_1 (x : Operand) : opA te fr σ (.fieldAddr 26 x 1) = faA 2 (ev fr x) := fa_eq (i := t26) (j := t22) (off := 2) rfl rfl rfl rfl rfl x
theorem o_fa28_0 (x : Operand) : opA te fr σ (.fieldAddr 28 x 0) = faA 0 (ev fr x) := fa_eq (i := t28) (j := t4) (off := 0) rfl rfl rfl rfl rfl x
theorem o_fa28_1 (x : Operand) : opA te fr σ (.fieldAddr 28 x 1) = faA 1 (ev fr x) := fa_eq (i := t28) (j := t22) (off := 1) rfl rfl rfl rfl rfl x
theorem o_fa30_0 (x : Operand) : opA te fr σ (.fieldAddr 30 x 0) = faA 0 (ev fr x) := fa_eq (i := t30) (j := t28) (off := 0) rfl rfl rfl rfl rfl x
theorem o_fa30_1 (x : Operand) : opA te fr σ (.fieldAddr 30 x 1) = faA 2 (ev fr x) := fa_eq (i := t30) (j := t22) (off := 2) rfl rfl rfl rfl rfl x
theorem o_fa38_0 (x : Operand) : opA te fr σ (.fieldAddr 38 x 0) = faA 0 (ev fr x) := fa_eq (i := t38) (j := t3) (off := 0) rfl rfl rfl rfl rfl x
theorem o_fa38_1 (x : Operand) : opA te fr σ (.fieldAddr 38 x 1) = faA 1 (ev fr x) := fa_eq (i := t38) (j := t3) (off := 1) rfl rfl rfl rfl rfl x
theorem o_fa38_2 (x : Operand) : opA te fr σ (.fieldAddr 38 x 2) = faA 2 (ev fr x) := fa_eq (i := t38) (j := t36) (off := 2) rfl rfl rfl rfl rfl x
theorem o_fa43_0 (x : Operand) : opA te fr σ (.fieldAddr 43 x 0) = faA 0 (ev fr x) := fa_eq (i := t43) (j := t3) (off := 0) rfl rfl rfl rfl rfl x
theorem o_fa43_1 (x : Operand) : opA te fr σ (.fieldAddr 43 x 1) = faA 1 (ev fr x) := fa_eq (i := t43) (j := t3) (off := 1) rfl rfl rfl rfl rfl x
theorem o_fa43_2 (x : Operand) : opA te fr σ (.fieldAddr 43 x 2) = faA 2 (ev fr x) := fa_eq (i := t43) (j := t41) (off := 2) rfl rfl rfl rfl rfl x
theorem o_fa80_0 (x : Operand) : opA te fr σ (.fieldAddr 80 x 0) = faA 0 (ev fr x) := fa_eq (i := t80) (j := t3) (off := 0) rfl rfl rfl rfl rfl x
theorem o_fa80_1 (x : Operand) : opA te fr σ (.fieldAddr 80 x 1) = faA 1 (ev fr x) := fa_eq (i := t80) (j := t3) (off := 1) rfl rfl rfl rfl rfl x
theorem o_fa80_2 (x : Operand) : opA te fr σ (.fieldAddr 80 x 2) = faA 2 (ev fr x) := fa_eq (i := t80) (j := t78) (off := 2) rfl rfl rfl rfl rfl x
theorem o_fa98_0 (x : Operand) : opA te fr σ (.fieldAddr 98 x 0) = faA 0 (ev fr x) := fa_eq (i := t98) (j := t28) (off := 0) rfl rfl rfl rfl rfl x
theorem o_fa98_1 (x : Operand) : opA te fr σ (.fieldAddr 98 x 1) = faA 2 (ev fr x) := fa_eq (i := t98) (j := t22) (off := 2) rfl rfl rfl rfl rfl x
theorem o_ia22 (x y : Operand) : opA te fr σ (.indexAddr 22 x y) = iaA 1 (ev fr x) (ev fr y) := ia_eq (i := t22) (j := t3) rfl rfl rfl rfl x y
theorem o_ia36 (x y : Operand) : opA te fr σ (.indexAddr 36 x y) = iaA 3 (ev fr x) (ev fr y) := ia_eq (i := t36) (j := t26) rfl rfl rfl rfl x y
theorem o_ia41 (x y : Operand) : opA te fr σ (.indexAddr 41 x y) = iaA 3 (ev fr x) (ev fr y) := ia_eq (i := t41) (j := t30) rfl rfl rfl rfl x y
theorem o_ia78 (x y : Operand) : opA te fr σ (.indexAddr 78 x y) = iaA 1 (ev fr x) (ev fr y) := ia_eq (i := t78) (j := t84) rfl rfl rfl rfl x y
theorem o_ia84 (x y : Operand) : opA te fr σ (.indexAddr 84 x y) = iaA 1 (ev fr x) (ev fr y) := ia_eq (i := t84) (j := t68) rfl rfl rfl rfl x y
theorem o_ld22 (x : Operand) : opA te fr σ (.load 22 x) = ld1 σ (ev fr x) := ld1_eq rfl rfl x
theorem o_ld24 (x : Operand) : opA te fr σ (.load 24 x) = ldn 2 σ (ev fr x) := ldn_eq (i := t24) rfl rfl rfl x
theorem o_ld26 (x : Operand) : opA te fr σ (.load 26 x) = ldn 3 σ (ev fr x) := ldn_eq (i := t26) rfl rfl rfl x
theorem o_ld28 (x : Operand) : opA te fr σ (.load 28 x) = ldn 2 σ (ev fr x) := ldn_eq (i := t28) rfl rfl rfl x
theorem o_ld3 (x : Operand) : opA te fr σ (.load 3 x) = ld1 σ (ev fr x) := ld1_eq rfl rfl x
theorem o_ld30 (x : Operand) : opA te fr σ (.load 30 x) = ldn 3 σ (ev fr x) := ldn_eq (i := t30) rfl rfl rfl x
theorem o_ld36 (x : Operand) : opA te fr σ (.load 36 x) = ld1 σ (ev fr x) := ld1_eq rfl rfl x
theorem o_ld38 (x : Operand) : opA te fr σ (.load 38 x) = ldn 3 σ (ev fr x) := ldn_eq (i := t38) rfl rfl rfl x
theorem o_ld4 (x : Operand) : opA te fr σ (.load 4 x) = ld1 σ (ev fr x) := ld1_eq rfl rfl x
theorem o_ld41 (x : Operand) : opA te fr σ (.load 41 x) = ld1 σ (ev fr x) := ld1_eq rfl rfl x
theorem o_ld43 (x : Operand) : opA te fr σ (.load 43 x) = ldn 3 σ (ev fr x) := ldn_eq (i := t43) rfl rfl rfl x
theorem o_ld68 (x : Operand) : opA te fr σ (.load 68 x) = ld1 σ (ev fr x) := ld1_eq rfl rfl x
theorem o_ld78 (x : Operand) : opA te fr σ (.load 78 x) = ld1 σ (ev fr x) := ld1_eq rfl rfl x
theorem o_ld80 (x : Operand) : opA te fr σ (.load 80 x) = ldn 3 σ (ev fr x) := ldn_eq (i := t80) rfl rfl rfl x
theorem o_ld84 (x : Operand) : opA te fr σ (.load 84 x) = ld1 σ (ev fr x) := ld1_eq rfl rfl x
theorem o_ln22 (x : Operand) : opA te fr σ (.call ⟨.builtin .len, #[x], #[22]⟩) = lnA (ev fr x) := ln_eq rfl rfl x
theorem o_ln36 (x : Operand) : opA te fr σ (.call ⟨.builtin .len, #[x], #[36]⟩) = lnA (ev fr x) := ln_eq rfl rfl x
theorem o_ln41 (x : Operand) : opA te fr σ (.call ⟨.builtin .len, #[x], #[41]⟩) = lnA (ev fr x) := ln_eq rfl rfl x
theorem o_ln78 (x : Operand) : opA te fr σ (.call ⟨.builtin .len, #[x], #[78]⟩) = lnA (ev fr x) := ln_eq rfl rfl x
theorem o_ln84 (x : Operand) : opA te fr σ (.call ⟨.builtin .len, #[x], #[84]⟩) = lnA (ev fr x) := ln_eq rfl rfl x
theorem o_mk22 (x y : Operand) : opA te fr σ (.makeSlice 22 x y) = mkB 3 8 1 σ.length [.v (.int .i64 0)] (ev fr x) (ev fr y) := mk_eq (i := t22) (j := t3) (el := 3) (bytes := 8) (sz := 1) rfl rfl rfl rfl rfl rfl rfl rfl x y
theorem o_mk41 (x y : Operand) : opA te fr σ (.makeSlice 41 x y) = mkB 30 56 3 σ.length [.v (.bool false), .v (.slice none 0 0), .v (.slice none 0 0)] (ev fr x) (ev fr y) := mk_eq (i := t41) (j := t30) (el := 30) (bytes := 56) (sz := 3) rfl rfl rfl rfl rfl rfl rfl rfl x y
theorem o_mk78 (x y : Operand) : opA te fr σ (.makeSlice 78 x y) = mkB 84 24 1 σ.length [.v (.slice none 0 0)] (ev fr x) (ev fr y) := mk_eq (i := t78) (j := t84) (el := 84) (bytes := 24) (sz := 1) rfl rfl rfl rfl rfl rfl rfl rfl x y
theorem o_mk84 (x y : Operand) : opA te fr σ (.makeSlice 84 x y) = mkB 68 8 1 σ.length [.v (.pointer none)] (ev fr x) (ev fr y) := mk_eq (i := t84) (j := t68) (el := 68) (bytes := 8) (sz := 1) rfl rfl rfl rfl rfl rfl rfl rfl x y
theorem o_sl22 (x : Operand) (lo hi : Option Operand) : opA te fr σ (.slice 22 x lo hi none) = slcA 1 (ev fr x) (evo fr lo) (evo fr hi) := sl_eq (i := t22) (j := t3) rfl rfl rfl rfl x lo hi
theorem o_sl41 (x : Operand) (lo hi : Option Operand) : opA te fr σ (.slice 41 x lo hi none) = slcA 3 (ev fr x) (evo fr lo) (evo fr hi) := sl_eq (i := t41) (j := t30) rfl rfl rfl rfl x lo hi
theorem o_st22 (x y : Operand) : opA te fr σ (.store 22 x y) = stS 1 σ (ev fr x) (ev fr y) := st_eq (i := t22) rfl rfl x y
theorem o_st28 (x y : Operand) : opA te fr σ (.store 28 x y) = stS 2 σ (ev fr x) (ev fr y) := st_eq (i := t28) rfl rfl x y
theorem o_st3 (x y : Operand) : opA te fr σ (.store 3 x y) = stS 1 σ (ev fr x) (ev fr y) := st_eq (i := t3) rfl rfl x y
theorem o_st30 (x y : Operand) : opA te fr σ (.store 30 x y) = stS 3 σ (ev fr x) (ev fr y) := st_eq (i := t30) rfl rfl x y
theorem o_st4 (x y : Operand) : opA te fr σ (.store 4 x y) = stS 1 σ (ev fr x) (ev fr y) := st_eq (i := t4) rfl rfl x y
theorem o_st41 (x y : Operand) : opA te fr σ (.store 41 x y) = stS 1 σ (ev fr x) (ev fr y) := st_eq (i := t41) rfl rfl x y
theorem o_st43 (x y : Operand) : opA te fr σ (.store 43 x y) = stS 3 σ (ev fr x) (ev fr y) := st_eq (i := t43) rfl rfl x y
theorem o_st68 (x y : Operand) : opA te fr σ (.store 68 x y) = stS 1 σ (ev fr x) (ev fr y) := st_eq (i := t68) rfl rfl x y
theorem o_st80 (x y : Operand) : opA te fr σ (.store 80 x y) = stS 3 σ (ev fr x) (ev fr y) := st_eq (i := t80) rfl rfl x y
theorem o_st84 (x y : Operand) : opA te fr σ (.store 84 x y) = stS 1 σ (ev fr x) (ev fr y) := st_eq (i := t84) rfl rfl x y
theorem o_cn3 (k : IntKind) (n : Int) : convA t3 (.v (.int k n)) = .val (.v (.int .i64 (IntKind.wrap .i64 n))) := rfl
theorem o_ib4 : isBool t4.desc = true := rfl
theorem o_zb22 {c : Fr → Sto → Prop} (d nm : Nat) : zB te d nm fr σ c (some 22) = c (put d (.sl nm 0 0 1) fr) σ := rfl
theorem o_zb36 {c : Fr → Sto → Prop} (d nm : Nat) : zB te d nm fr σ c (some 36) = c (put d (.sl nm 0 0 3) fr) σ := rfl
theorem o_zb41 {c : Fr → Sto → Prop} (d nm : Nat) : zB te d nm fr σ c (some 41) = c (put d (.sl nm 0 0 3) fr) σ := rfl
theorem o_ip68 : isPtr t68.desc = true := rfl
theorem o_zb78 {c : Fr → Sto → Prop} (d nm : Nat) : zB te d nm fr σ c (some 78) = c (put d (.sl nm 0 0 1) fr) σ := rfl
theorem o_zb84 {c : Fr → Sto → Prop} (d nm : Nat) : zB te d nm fr σ c (some 84) = c (put d (.sl nm 0 0 1) fr) σ := rfl
theorem o_cn120 (k : IntKind) (n : Int) : convA t120 (.v (.int k n)) = .val (.v (.int .u64 (IntKind.wrap .u64 n))) := rfl
end

-- NAMES o_al28 o_al30 o_al43 o_al80 o_al84 o_ap22 o_ap41 o_bi120 o_bi22 o_bi3 o_bi4 o_bi68 o_bs22_0 o_bs22_1 o_bs22_3 o_bs41_0 o_bs41_1 o_bu28 o_bu30 o_bu43 o_bu80 o_bu98 o_cn120 o_cn3 o_cv120_3 o_cv3_120 o_fa24_0 o_fa24_1 o_fa26_0 o_fa26_1 o_fa28_0 o_fa28_1 o_fa30_0 o_fa30_1 o_fa38_0 o_fa38_1 o_fa38_2 o_fa43_0 o_fa43_1 o_fa43_2 o_fa80_0 o_fa80_1 o_fa80_2 o_fa98_0 o_fa98_1 o_ia22 o_ia36 o_ia41 o_ia78 o_ia84 o_ib4 o_ip68 o_ld22 o_ld24 o_ld26 o_ld28 o_ld3 o_ld30 o_ld36 o_ld38 o_ld4 o_ld41 o_ld43 o_ld68 o_ld78 o_ld80 o_ld84 o_ln22 o_ln36 o_ln41 o_ln78 o_ln84 o_mk22 o_mk41 o_mk78 o_mk84 o_sl22 o_sl41 o_st22 o_st28 o_st3 o_st30 o_st4 o_st41 o_st43 o_st68 o_st80 o_st84 o_zb22 o_zb36 o_zb41 o_zb78 o_zb84
theorem mixedOk : Try.prog.follows .mixedOrders = true := by kernel_rfl
end Go.Proofs.Ytbblhgldfcodfaa.Ab
