/- The table of the types that this claim's functions name: written by a program of this session. -/
import Derived.Test.YtfkkoccjgembaaaAbB
import Derived.Test.YtfkkoccjgembaaaProg
set_option linter.unusedVariables false
set_option linter.unusedSimpArgs false
namespace Go.Proofs.Ytfkkoccjgembaaa.Ab
open Go
def t3 : TI := ⟨.int .i64, 1, 8, .int .i64 0⟩
def t4 : TI := ⟨.bool, 1, 1, .bool false⟩
def t5 : TI := ⟨.int .u8, 1, 1, .int .u8 0⟩
def t9 : TI := ⟨.string, 1, 16, .string ⟨#[]⟩⟩
def t24 : TI := ⟨.slice 3, 1, 24, .slice none 0 0⟩
def t31 : TI := ⟨.slice 9, 1, 24, .slice none 0 0⟩
def t37 : TI := ⟨.struct #[⟨ "Neg", 4, 0, false, "", "", 0⟩, ⟨ "Mag", 24, 1, false, "", "", 8⟩], 2, 32, .agg #[.bool false, .slice none 0 0]⟩
def t40 : TI := ⟨.struct #[⟨ "Neg", 4, 0, false, "", "", 0⟩, ⟨ "Mag", 24, 1, false, "", "", 8⟩], 2, 32, .agg #[.bool false, .slice none 0 0]⟩
def t48 : TI := ⟨.struct #[⟨ "Num", 37, 0, false, "", "", 0⟩, ⟨ "Den", 24, 2, false, "", "", 32⟩], 3, 56, .agg #[.bool false, .slice none 0 0, .slice none 0 0]⟩
def t52 : TI := ⟨.struct #[⟨ "Num", 40, 0, false, "", "", 0⟩, ⟨ "Den", 24, 2, false, "", "", 32⟩], 3, 56, .agg #[.bool false, .slice none 0 0, .slice none 0 0]⟩
def t64 : TI := ⟨.int .u64, 1, 8, .int .u64 0⟩
def t69 : TI := ⟨.slice 5, 1, 24, .slice none 0 0⟩
def t70 : TI := ⟨.pointer 72, 1, 8, .pointer none⟩
def t72 : TI := ⟨.struct #[⟨ "addr", 70, 0, false, "", "strings", 0⟩, ⟨ "buf", 69, 1, false, "", "strings", 8⟩], 2, 32, .agg #[.pointer none, .slice none 0 0]⟩
def t79 : TI := ⟨.pointer 5, 1, 8, .pointer none⟩
def te : TE := [(3, t3), (4, t4), (5, t5), (9, t9), (24, t24), (31, t31), (37, t37), (40, t40), (48, t48), (52, t52), (64, t64), (69, t69), (70, t70), (72, t72), (79, t79)]
set_option maxRecDepth 100000 in
theorem teOk : TEok Try.prog te := TEok.of_all ⟨TI.mk_ok (by kernel_rfl) (by kernel_rfl), TI.mk_ok (by kernel_rfl) (by kernel_rfl), TI.mk_ok (by kernel_rfl) (by kernel_rfl), TI.mk_ok (by kernel_rfl) (by kernel_rfl), TI.mk_ok (by kernel_rfl) (by kernel_rfl), TI.mk_ok (by kernel_rfl) (by kernel_rfl), TI.mk_ok (by kernel_rfl) (by kernel_rfl), TI.mk_ok (by kernel_rfl) (by kernel_rfl), TI.mk_ok (by kernel_rfl) (by kernel_rfl), TI.mk_ok (by kernel_rfl) (by kernel_rfl), TI.mk_ok (by kernel_rfl) (by kernel_rfl), TI.mk_ok (by kernel_rfl) (by kernel_rfl), TI.mk_ok (by kernel_rfl) (by kernel_rfl), TI.mk_ok (by kernel_rfl) (by kernel_rfl), TI.mk_ok (by kernel_rfl) (by kernel_rfl), trivial⟩
section
variable {fr : Fr} {σ : Sto}
theorem o_al40 : opA te fr σ (.alloc 40) = .new ⟨40, [.v (.bool false), .v (.slice none 0 0)]⟩ (.p σ.length 0) := alloc_eq rfl rfl
theorem o_al52 : opA te fr σ (.alloc 52) = .new ⟨52, [.v (.bool false), .v (.slice none 0 0), .v (.slice none 0 0)]⟩ (.p σ.length 0) := alloc_eq rfl rfl
theorem o_al72 : opA te fr σ (.alloc 72) = .new ⟨72, [.v (.pointer none), .v (.slice none 0 0)]⟩ (.p σ.length 0) := alloc_eq rfl rfl
theorem o_ap24 (x y : Operand) : opA te fr σ (.call ⟨.builtin .append, #[x, y], #[24, 24]⟩) = apA 3 8 1 σ (ev fr x) (ev fr y) := ap_eq (i := t24) (j := t3) (el := 3) (bytes := 8) (sz := 1) rfl rfl rfl rfl rfl rfl rfl x y
theorem o_ap31 (x y : Operand) : opA te fr σ (.call ⟨.builtin .append, #[x, y], #[31, 31]⟩) = apA 9 16 1 σ (ev fr x) (ev fr y) := ap_eq (i := t31) (j := t9) (el := 9) (bytes := 16) (sz := 1) rfl rfl rfl rfl rfl rfl rfl x y
theorem o_bi3 (op : BinOp) (x y : Operand) (z : Nat) : opA te fr σ (.binOp op 3 x y z) = o2 (binA t3 op) (ev fr x) (ev fr y) := bin_eq rfl op x y z
theorem o_bi4 (op : BinOp) (x y : Operand) (z : Nat) : opA te fr σ (.binOp op 4 x y z) = o2 (binA t4 op) (ev fr x) (ev fr y) := bin_eq rfl op x y z
theorem o_bi5 (op : BinOp) (x y : Operand) (z : Nat) : opA te fr σ (.binOp op 5 x y z) = o2 (binA t5 op) (ev fr x) (ev fr y) := bin_eq rfl op x y z
theorem o_bi64 (op : BinOp) (x y : Operand) (z : Nat) : opA te fr σ (.binOp op 64 x y z) = o2 (binA t64 op) (ev fr x) (ev fr y) := bin_eq rfl op x y z
theorem o_bi70 (op : BinOp) (x y : Operand) (z : Nat) : opA te fr σ (.binOp op 70 x y z) = o2 (binA t70 op) (ev fr x) (ev fr y) := bin_eq rfl op x y z
theorem o_bi9 (op : BinOp) (x y : Operand) (z : Nat) : opA te fr σ (.binOp op 9 x y z) = o2 (binA t9 op) (ev fr x) (ev fr y) := bin_eq rfl op x y z
theorem o_bs24_0 (a : Array (Nat × Operand)) : opA te fr σ (.buildSlice 24 0 a) = bsl 3 σ.length 0 1 [] (evp fr a.toList) := bs_eq (i := t24) (j := t3) (el := 3) (sz := 1) rfl rfl rfl rfl rfl 0 rfl rfl a
theorem o_bs24_1 (a : Array (Nat × Operand)) : opA te fr σ (.buildSlice 24 1 a) = bsl 3 σ.length 1 1 [.v (.int .i64 0)] (evp fr a.toList) := bs_eq (i := t24) (j := t3) (el := 3) (sz := 1) rfl rfl rfl rfl rfl 1 rfl rfl a
theorem o_bs24_3 (a : Array (Nat × Operand)) : opA te fr σ (.buildSlice 24 3 a) = bsl 3 σ.length 3 1 [.v (.int .i64 0), .v (.int .i64 0), .v (.int .i64 0)] (evp fr a.toList) := bs_eq (i := t24) (j := t3) (el := 3) (sz := 1) rfl rfl rfl rfl rfl 3 rfl rfl a
theorem o_bs31_0 (a : Array (Nat × Operand)) : opA te fr σ (.buildSlice 31 0 a) = bsl 9 σ.length 0 1 [] (evp fr a.toList) := bs_eq (i := t31) (j := t9) (el := 9) (sz := 1) rfl rfl rfl rfl rfl 0 rfl rfl a
theorem o_bs31_1 (a : Array (Nat × Operand)) : opA te fr σ (.buildSlice 31 1 a) = bsl 9 σ.length 1 1 [.v (.string ⟨#[]⟩)] (evp fr a.toList) := bs_eq (i := t31) (j := t9) (el := 9) (sz := 1) rfl rfl rfl rfl rfl 1 rfl rfl a
theorem o_bs69_1 (a : Array (Nat × Operand)) : opA te fr σ (.buildSlice 69 1 a) = bsl 5 σ.length 1 1 [.v (.int .u8 0)] (evp fr a.toList) := bs_eq (i := t69) (j := t5) (el := 5) (sz := 1) rfl rfl rfl rfl rfl 1 rfl rfl a
theorem o_bu40 (a : Array (Nat × Operand)) : opA te fr σ (.build 40 a) = bld [.v (.bool false), .v (.slice none 0 0)] [(0, 1), (1, 1)] (evp fr a.toList) := build_eq (i := t40) (ps := [(0, 1), (1, 1)]) rfl rfl rfl rfl a
theorem o_cv3_5 (x : Operand) : opA te fr σ (.convert 3 5 x) = o1 (convA t5) (ev fr x) := cv_eq rfl rfl rfl x
theorem o_cv3_64 (x : Operand) : opA te fr σ (.convert 3 64 x) = o1 (convA t64) (ev fr x) := cv_eq rfl rfl rfl x
theorem o_cv64_3 (x : Operand) : opA te fr σ (.convert 64 3 x) = o1 (convA t3) (ev fr x) := cv_eq rfl rfl rfl x
theorem o_cv69_9 (x : Operand) : opA te fr σ (.convert 69 9 x) = cvS σ (ev fr x) := cvs_eq (j := t69) (q := t5) rfl rfl rfl rfl rfl x
theorem o_fa37_0 (x : Operand) : opA te fr σ (.fieldAddr 37 x 0) = faA 0 (ev fr x) := fa_eq (i := t37) (j := t4) (off := 0) rfl rfl rfl rfl rfl x
theorem o_fa37_1 (x : Operand) : opA te fr σ (.fieldAddr 37 x 1) = faA 1 (ev fr x) := fa_eq (i := t37) (j := t24) (off := 1) rfl rfl rfl rfl rfl x
theorem o_fa40_0 (x : Operand) : opA te fr σ (.fieldAddr 40 x 0) = faA 0 (ev fr x) := fa_eq (i := t40) (j := t4) (off := 0) rfl rfl rfl rfl rfl x
theorem o_fa40_1 (x : Operand) : opA te fr σ (.fieldAddr 40 x 1) = faA 1 (ev fr x) := fa_eq (i := t40) (j := t24) (off := 1) rfl rfl rfl rfl rfl x
theorem o_fa48_0 (x : Operand) : opA te fr σ (.fieldAddr 48 x 0) = faA 0 (ev fr x) := fa_eq (i := t48) (j := t37) (off := 0) rfl rfl rfl rfl rfl x
theorem o_fa48_1 (x : Operand) : opA te fr σ (.fieldAddr 48 x 1) = faA 2 (ev fr x) := fa_eq (i := t48) (j := t24) (off := 2) rfl rfl rfl rfl rfl x
theorem o_fa52_0 (x : Operand) : opA te fr σ (.fieldAddr 52 x 0) = faA 0 (ev fr x) := fa_eq (i := t52) (j := t40) (off := 0) rfl rfl rfl rfl rfl x
theorem o_fa52_1 (x : Operand) : opA te fr σ (.fieldAddr 52 x 1) = faA 2 (ev fr x) := fa_eq (i := t52) (j := t24) (off := 2) rfl rfl rfl rfl rfl x
theorem o_fa72_0 (x : Operand) : opA te fr σ (.fieldAddr 72 x 0) = faA 0 (ev fr x) := fa_eq (i := t72) (j := t70) (off := 0) rfl rfl rfl rfl rfl x
theorem o_fa72_1 (x : Operand) : opA te fr σ (.fieldAddr 72 x 1) = faA 1 (ev fr x) := fa_eq (i := t72) (j := t69) (off := 1) rfl rfl rfl rfl rfl x
theorem o_ia24 (x y : Operand) : opA te fr σ (.indexAddr 24 x y) = iaA 1 (ev fr x) (ev fr y) := ia_eq (i := t24) (j := t3) rfl rfl rfl rfl x y
theorem o_ia31 (x y : Operand) : opA te fr σ (.indexAddr 31 x y) = iaA 1 (ev fr x) (ev fr y) := ia_eq (i := t31) (j := t9) rfl rfl rfl rfl x y
theorem o_ix9 (x y : Operand) : opA te fr σ (.index 9 x y) = ixS (ev fr x) (ev fr y) := ix_eq rfl rfl x y
theorem o_ld24 (x : Operand) : opA te fr σ (.load 24 x) = ld1 σ (ev fr x) := ld1_eq rfl rfl x
theorem o_ld3 (x : Operand) : opA te fr σ (.load 3 x) = ld1 σ (ev fr x) := ld1_eq rfl rfl x
theorem o_ld37 (x : Operand) : opA te fr σ (.load 37 x) = ldn 2 σ (ev fr x) := ldn_eq (i := t37) rfl rfl rfl x
theorem o_ld4 (x : Operand) : opA te fr σ (.load 4 x) = ld1 σ (ev fr x) := ld1_eq rfl rfl x
theorem o_ld40 (x : Operand) : opA te fr σ (.load 40 x) = ldn 2 σ (ev fr x) := ldn_eq (i := t40) rfl rfl rfl x
theorem o_ld48 (x : Operand) : opA te fr σ (.load 48 x) = ldn 3 σ (ev fr x) := ldn_eq (i := t48) rfl rfl rfl x
theorem o_ld52 (x : Operand) : opA te fr σ (.load 52 x) = ldn 3 σ (ev fr x) := ldn_eq (i := t52) rfl rfl rfl x
theorem o_ld69 (x : Operand) : opA te fr σ (.load 69 x) = ld1 σ (ev fr x) := ld1_eq rfl rfl x
theorem o_ld70 (x : Operand) : opA te fr σ (.load 70 x) = ld1 σ (ev fr x) := ld1_eq rfl rfl x
theorem o_ld9 (x : Operand) : opA te fr σ (.load 9 x) = ld1 σ (ev fr x) := ld1_eq rfl rfl x
theorem o_ln24 (x : Operand) : opA te fr σ (.call ⟨.builtin .len, #[x], #[24]⟩) = lnA (ev fr x) := ln_eq rfl rfl x
theorem o_ln31 (x : Operand) : opA te fr σ (.call ⟨.builtin .len, #[x], #[31]⟩) = lnA (ev fr x) := ln_eq rfl rfl x
theorem o_ln69 (x : Operand) : opA te fr σ (.call ⟨.builtin .len, #[x], #[69]⟩) = lnA (ev fr x) := ln_eq rfl rfl x
theorem o_ln9 (x : Operand) : opA te fr σ (.call ⟨.builtin .len, #[x], #[9]⟩) = lnS (ev fr x) := lns_eq rfl rfl x
theorem o_mk24 (x y : Operand) : opA te fr σ (.makeSlice 24 x y) = mkB 3 8 1 σ.length [.v (.int .i64 0)] (ev fr x) (ev fr y) := mk_eq (i := t24) (j := t3) (el := 3) (bytes := 8) (sz := 1) rfl rfl rfl rfl rfl rfl rfl rfl x y
theorem o_mk31 (x y : Operand) : opA te fr σ (.makeSlice 31 x y) = mkB 9 16 1 σ.length [.v (.string ⟨#[]⟩)] (ev fr x) (ev fr y) := mk_eq (i := t31) (j := t9) (el := 9) (bytes := 16) (sz := 1) rfl rfl rfl rfl rfl rfl rfl rfl x y
theorem o_sl24 (x : Operand) (lo hi : Option Operand) : opA te fr σ (.slice 24 x lo hi none) = slcA 1 (ev fr x) (evo fr lo) (evo fr hi) := sl_eq (i := t24) (j := t3) rfl rfl rfl rfl x lo hi
theorem o_sl31 (x : Operand) (lo hi : Option Operand) : opA te fr σ (.slice 31 x lo hi none) = slcA 1 (ev fr x) (evo fr lo) (evo fr hi) := sl_eq (i := t31) (j := t9) rfl rfl rfl rfl x lo hi
theorem o_sl69 (x : Operand) (lo hi : Option Operand) : opA te fr σ (.slice 69 x lo hi none) = slcA 1 (ev fr x) (evo fr lo) (evo fr hi) := sl_eq (i := t69) (j := t5) rfl rfl rfl rfl x lo hi
theorem o_sl9 (x : Operand) (lo hi : Option Operand) : opA te fr σ (.slice 9 x lo hi none) = slsA (ev fr x) (evo fr lo) (evo fr hi) := sls_eq rfl rfl x lo hi
theorem o_st24 (x y : Operand) : opA te fr σ (.store 24 x y) = stS 1 σ (ev fr x) (ev fr y) := st_eq (i := t24) rfl rfl x y
theorem o_st3 (x y : Operand) : opA te fr σ (.store 3 x y) = stS 1 σ (ev fr x) (ev fr y) := st_eq (i := t3) rfl rfl x y
theorem o_st4 (x y : Operand) : opA te fr σ (.store 4 x y) = stS 1 σ (ev fr x) (ev fr y) := st_eq (i := t4) rfl rfl x y
theorem o_st40 (x y : Operand) : opA te fr σ (.store 40 x y) = stS 2 σ (ev fr x) (ev fr y) := st_eq (i := t40) rfl rfl x y
theorem o_st52 (x y : Operand) : opA te fr σ (.store 52 x y) = stS 3 σ (ev fr x) (ev fr y) := st_eq (i := t52) rfl rfl x y
theorem o_st69 (x y : Operand) : opA te fr σ (.store 69 x y) = stS 1 σ (ev fr x) (ev fr y) := st_eq (i := t69) rfl rfl x y
theorem o_st70 (x y : Operand) : opA te fr σ (.store 70 x y) = stS 1 σ (ev fr x) (ev fr y) := st_eq (i := t70) rfl rfl x y
theorem o_st9 (x y : Operand) : opA te fr σ (.store 9 x y) = stS 1 σ (ev fr x) (ev fr y) := st_eq (i := t9) rfl rfl x y
theorem o_cn3 (k : IntKind) (n : Int) : convA t3 (.v (.int k n)) = .val (.v (.int .i64 (IntKind.wrap .i64 n))) := rfl
theorem o_ib4 : isBool t4.desc = true := rfl
theorem o_cn5 (k : IntKind) (n : Int) : convA t5 (.v (.int k n)) = .val (.v (.int .u8 (IntKind.wrap .u8 n))) := rfl
theorem o_zb24 {c : Fr → Sto → Prop} (d nm : Nat) : zB te d nm fr σ c (some 24) = c (put d (.sl nm 0 0 1) fr) σ := rfl
theorem o_zb31 {c : Fr → Sto → Prop} (d nm : Nat) : zB te d nm fr σ c (some 31) = c (put d (.sl nm 0 0 1) fr) σ := rfl
theorem o_cn64 (k : IntKind) (n : Int) : convA t64 (.v (.int k n)) = .val (.v (.int .u64 (IntKind.wrap .u64 n))) := rfl
theorem o_zb69 {c : Fr → Sto → Prop} (d nm : Nat) : zB te d nm fr σ c (some 69) = c (put d (.sl nm 0 0 1) fr) σ := rfl
theorem o_ip70 : isPtr t70.desc = true := rfl
theorem o_ip79 : isPtr t79.desc = true := rfl
end

-- NAMES o_al40 o_al52 o_al72 o_ap24 o_ap31 o_bi3 o_bi4 o_bi5 o_bi64 o_bi70 o_bi9 o_bs24_0 o_bs24_1 o_bs24_3 o_bs31_0 o_bs31_1 o_bs69_1 o_bu40 o_cn3 o_cn5 o_cn64 o_cv3_5 o_cv3_64 o_cv64_3 o_cv69_9 o_fa37_0 o_fa37_1 o_fa40_0 o_fa40_1 o_fa48_0 o_fa48_1 o_fa52_0 o_fa52_1 o_fa72_0 o_fa72_1 o_ia24 o_ia31 o_ib4 o_ip70 o_ip79 o_ix9 o_ld24 o_ld3 o_ld37 o_ld4 o_ld40 o_ld48 o_ld52 o_ld69 o_ld70 o_ld9 o_ln24 o_ln31 o_ln69 o_ln9 o_mk24 o_mk31 o_sl24 o_sl31 o_sl69 o_sl9 o_st24 o_st3 o_st4 o_st40 o_st52 o_st69 o_st70 o_st9 o_zb24 o_zb31 o_zb69
theorem mixedOk : Try.prog.follows .mixedOrders = true := by kernel_rfl
end Go.Proofs.Ytfkkoccjgembaaa.Ab
