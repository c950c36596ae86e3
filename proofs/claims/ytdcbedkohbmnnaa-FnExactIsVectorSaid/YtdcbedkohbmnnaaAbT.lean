/- The table of the types that this claim's functions name: written by a program of this session. -/
import Derived.Test.YtdcbedkohbmnnaaAbB
import Derived.Test.YtdcbedkohbmnnaaProg
set_option linter.unusedVariables false
set_option linter.unusedSimpArgs false
namespace Go.Proofs.Ytdcbedkohbmnnaa.Ab
open Go
def t3 : TI := ⟨.int .i64, 1, 8, .int .i64 0⟩
def t4 : TI := ⟨.bool, 1, 1, .bool false⟩
def t22 : TI := ⟨.slice 3, 1, 24, .slice none 0 0⟩
def t30 : TI := ⟨.struct #[⟨ "Neg", 4, 0, false, "", "", 0⟩, ⟨ "Mag", 22, 1, false, "", "", 8⟩], 2, 32, .agg #[.bool false, .slice none 0 0]⟩
def t32 : TI := ⟨.struct #[⟨ "Num", 30, 0, false, "", "", 0⟩, ⟨ "Den", 22, 2, false, "", "", 32⟩], 3, 56, .agg #[.bool false, .slice none 0 0, .slice none 0 0]⟩
def t35 : TI := ⟨.struct #[⟨ "Neg", 4, 0, false, "", "", 0⟩, ⟨ "Mag", 22, 1, false, "", "", 8⟩], 2, 32, .agg #[.bool false, .slice none 0 0]⟩
def t37 : TI := ⟨.struct #[⟨ "Num", 35, 0, false, "", "", 0⟩, ⟨ "Den", 22, 2, false, "", "", 32⟩], 3, 56, .agg #[.bool false, .slice none 0 0, .slice none 0 0]⟩
def t58 : TI := ⟨.slice 32, 1, 24, .slice none 0 0⟩
def t61 : TI := ⟨.slice 37, 1, 24, .slice none 0 0⟩
def t69 : TI := ⟨.pointer 95, 1, 8, .pointer none⟩
def t78 : TI := ⟨.slice 69, 1, 24, .slice none 0 0⟩
def t88 : TI := ⟨.int .u64, 1, 8, .int .u64 0⟩
def t95 : TI := ⟨.struct #[⟨ "num", 35, 0, false, "", "loop.example/g00830/impl", 0⟩, ⟨ "den", 22, 2, false, "", "loop.example/g00830/impl", 32⟩], 3, 56, .agg #[.bool false, .slice none 0 0, .slice none 0 0]⟩
def te : TE := [(3, t3), (4, t4), (22, t22), (30, t30), (32, t32), (35, t35), (37, t37), (58, t58), (61, t61), (69, t69), (78, t78), (88, t88), (95, t95)]
set_option maxRecDepth 100000 in
theorem teOk : TEok Try.prog te := TEok.of_all ⟨TI.mk_ok (by kernel_rfl) (by kernel_rfl), TI.mk_ok (by kernel_rfl) (by kernel_rfl), TI.mk_ok (by kernel_rfl) (by kernel_rfl), TI.mk_ok (by kernel_rfl) (by kernel_rfl), TI.mk_ok (by kernel_rfl) (by kernel_rfl), TI.mk_ok (by kernel_rfl) (by kernel_rfl), TI.mk_ok (by kernel_rfl) (by kernel_rfl), TI.mk_ok (by kernel_rfl) (by kernel_rfl), TI.mk_ok (by kernel_rfl) (by kernel_rfl), TI.mk_ok (by kernel_rfl) (by kernel_rfl), TI.mk_ok (by kernel_rfl) (by kernel_rfl), TI.mk_ok (by kernel_rfl) (by kernel_rfl), TI.mk_ok (by kernel_rfl) (by kernel_rfl), trivial⟩
section
variable {fr : Fr} {σ : Sto}
theorem o_al35 : opA te fr σ (.alloc 35) = .new ⟨35, [.v (.bool false), .v (.slice none 0 0)]⟩ (.p σ.length 0) := alloc_eq rfl rfl
theorem o_al37 : opA te fr σ (.alloc 37) = .new ⟨37, [.v (.bool false), .v (.slice none 0 0), .v (.slice none 0 0)]⟩ (.p σ.length 0) := alloc_eq rfl rfl
theorem o_ap22 (x y : Operand) : opA te fr σ (.call ⟨.builtin .append, #[x, y], #[22, 22]⟩) = apA 3 8 1 σ (ev fr x) (ev fr y) := ap_eq (i := t22) (j := t3) (el := 3) (bytes := 8) (sz := 1) rfl rfl rfl rfl rfl rfl rfl x y
theorem o_bi22 (op : BinOp) (x y : Operand) (z : Nat) : opA te fr σ (.binOp op 22 x y z) = o2 (binA t22 op) (ev fr x) (ev fr y) := bin_eq rfl op x y z
theorem o_bi3 (op : BinOp) (x y : Operand) (z : Nat) : opA te fr σ (.binOp op 3 x y z) = o2 (binA t3 op) (ev fr x) (ev fr y) := bin_eq rfl op x y z
theorem o_bi4 (op : BinOp) (x y : Operand) (z : Nat) : opA te fr σ (.binOp op 4 x y z) = o2 (binA t4 op) (ev fr x) (ev fr y) := bin_eq rfl op x y z
theorem o_bi69 (op : BinOp) (x y : Operand) (z : Nat) : opA te fr σ (.binOp op 69 x y z) = o2 (binA t69 op) (ev fr x) (ev fr y) := bin_eq rfl op x y z
theorem o_bi88 (op : BinOp) (x y : Operand) (z : Nat) : opA te fr σ (.binOp op 88 x y z) = o2 (binA t88 op) (ev fr x) (ev fr y) := bin_eq rfl op x y z
theorem o_bs22_0 (a : Array (Nat × Operand)) : opA te fr σ (.buildSlice 22 0 a) = bsl 3 σ.length 0 1 [] (evp fr a.toList) := bs_eq (i := t22) (j := t3) (el := 3) (sz := 1) rfl rfl rfl rfl rfl 0 rfl rfl a
theorem o_bs22_1 (a : Array (Nat × Operand)) : opA te fr σ (.buildSlice 22 1 a) = bsl 3 σ.length 1 1 [.v (.int .i64 0)] (evp fr a.toList) := bs_eq (i := t22) (j := t3) (el := 3) (sz := 1) rfl rfl rfl rfl rfl 1 rfl rfl a
theorem o_bs22_3 (a : Array (Nat × Operand)) : opA te fr σ (.buildSlice 22 3 a) = bsl 3 σ.length 3 1 [.v (.int .i64 0), .v (.int .i64 0), .v (.int .i64 0)] (evp fr a.toList) := bs_eq (i := t22) (j := t3) (el := 3) (sz := 1) rfl rfl rfl rfl rfl 3 rfl rfl a
theorem o_bu35 (a : Array (Nat × Operand)) : opA te fr σ (.build 35 a) = bld [.v (.bool false), .v (.slice none 0 0)] [(0, 1), (1, 1)] (evp fr a.toList) := build_eq (i := t35) (ps := [(0, 1), (1, 1)]) rfl rfl rfl rfl a
theorem o_bu37 (a : Array (Nat × Operand)) : opA te fr σ (.build 37 a) = bld [.v (.bool false), .v (.slice none 0 0), .v (.slice none 0 0)] [(0, 2), (2, 1)] (evp fr a.toList) := build_eq (i := t37) (ps := [(0, 2), (2, 1)]) rfl rfl rfl rfl a
theorem o_bu95 (a : Array (Nat × Operand)) : opA te fr σ (.build 95 a) = bld [.v (.bool false), .v (.slice none 0 0), .v (.slice none 0 0)] [(0, 2), (2, 1)] (evp fr a.toList) := build_eq (i := t95) (ps := [(0, 2), (2, 1)]) rfl rfl rfl rfl a
theorem o_cv3_88 (x : Operand) : opA te fr σ (.convert 3 88 x) = o1 (convA t88) (ev fr x) := cv_eq rfl rfl x
theorem o_cv88_3 (x : Operand) : opA te fr σ (.convert 88 3 x) = o1 (convA t3) (ev fr x) := cv_eq rfl rfl x
theorem o_fa30_0 (x : Operand) : opA te fr σ (.fieldAddr 30 x 0) = faA 0 (ev fr x) := fa_eq (i := t30) (j := t4) (off := 0) rfl rfl rfl rfl rfl x
theorem o_fa30_1 (x : Operand) : opA te fr σ (.fieldAddr 30 x 1) = faA 1 (ev fr x) := fa_eq (i := t30) (j := t22) (off := 1) rfl rfl rfl rfl rfl x
theorem o_fa32_0 (x : Operand) : opA te fr σ (.fieldAddr 32 x 0) = faA 0 (ev fr x) := fa_eq (i := t32) (j := t30) (off := 0) rfl rfl rfl rfl rfl x
theorem o_fa32_1 (x : Operand) : opA te fr σ (.fieldAddr 32 x 1) = faA 2 (ev fr x) := fa_eq (i := t32) (j := t22) (off := 2) rfl rfl rfl rfl rfl x
theorem o_fa35_0 (x : Operand) : opA te fr σ (.fieldAddr 35 x 0) = faA 0 (ev fr x) := fa_eq (i := t35) (j := t4) (off := 0) rfl rfl rfl rfl rfl x
theorem o_fa35_1 (x : Operand) : opA te fr σ (.fieldAddr 35 x 1) = faA 1 (ev fr x) := fa_eq (i := t35) (j := t22) (off := 1) rfl rfl rfl rfl rfl x
theorem o_fa37_0 (x : Operand) : opA te fr σ (.fieldAddr 37 x 0) = faA 0 (ev fr x) := fa_eq (i := t37) (j := t35) (off := 0) rfl rfl rfl rfl rfl x
theorem o_fa37_1 (x : Operand) : opA te fr σ (.fieldAddr 37 x 1) = faA 2 (ev fr x) := fa_eq (i := t37) (j := t22) (off := 2) rfl rfl rfl rfl rfl x
theorem o_fa95_0 (x : Operand) : opA te fr σ (.fieldAddr 95 x 0) = faA 0 (ev fr x) := fa_eq (i := t95) (j := t35) (off := 0) rfl rfl rfl rfl rfl x
theorem o_fa95_1 (x : Operand) : opA te fr σ (.fieldAddr 95 x 1) = faA 2 (ev fr x) := fa_eq (i := t95) (j := t22) (off := 2) rfl rfl rfl rfl rfl x
theorem o_ia22 (x y : Operand) : opA te fr σ (.indexAddr 22 x y) = iaA 1 (ev fr x) (ev fr y) := ia_eq (i := t22) (j := t3) rfl rfl rfl rfl x y
theorem o_ia58 (x y : Operand) : opA te fr σ (.indexAddr 58 x y) = iaA 3 (ev fr x) (ev fr y) := ia_eq (i := t58) (j := t32) rfl rfl rfl rfl x y
theorem o_ia61 (x y : Operand) : opA te fr σ (.indexAddr 61 x y) = iaA 3 (ev fr x) (ev fr y) := ia_eq (i := t61) (j := t37) rfl rfl rfl rfl x y
theorem o_ia78 (x y : Operand) : opA te fr σ (.indexAddr 78 x y) = iaA 1 (ev fr x) (ev fr y) := ia_eq (i := t78) (j := t69) rfl rfl rfl rfl x y
theorem o_ld22 (x : Operand) : opA te fr σ (.load 22 x) = ld1 σ (ev fr x) := ld1_eq rfl rfl x
theorem o_ld3 (x : Operand) : opA te fr σ (.load 3 x) = ld1 σ (ev fr x) := ld1_eq rfl rfl x
theorem o_ld30 (x : Operand) : opA te fr σ (.load 30 x) = ldn 2 σ (ev fr x) := ldn_eq (i := t30) rfl rfl rfl x
theorem o_ld32 (x : Operand) : opA te fr σ (.load 32 x) = ldn 3 σ (ev fr x) := ldn_eq (i := t32) rfl rfl rfl x
theorem o_ld35 (x : Operand) : opA te fr σ (.load 35 x) = ldn 2 σ (ev fr x) := ldn_eq (i := t35) rfl rfl rfl x
theorem o_ld37 (x : Operand) : opA te fr σ (.load 37 x) = ldn 3 σ (ev fr x) := ldn_eq (i := t37) rfl rfl rfl x
theorem o_ld4 (x : Operand) : opA te fr σ (.load 4 x) = ld1 σ (ev fr x) := ld1_eq rfl rfl x
theorem o_ld69 (x : Operand) : opA te fr σ (.load 69 x) = ld1 σ (ev fr x) := ld1_eq rfl rfl x
theorem o_ln22 (x : Operand) : opA te fr σ (.call ⟨.builtin .len, #[x], #[22]⟩) = lnA (ev fr x) := ln_eq rfl rfl x
theorem o_ln58 (x : Operand) : opA te fr σ (.call ⟨.builtin .len, #[x], #[58]⟩) = lnA (ev fr x) := ln_eq rfl rfl x
theorem o_ln61 (x : Operand) : opA te fr σ (.call ⟨.builtin .len, #[x], #[61]⟩) = lnA (ev fr x) := ln_eq rfl rfl x
theorem o_mk22 (x y : Operand) : opA te fr σ (.makeSlice 22 x y) = mkB 3 8 1 σ.length [.v (.int .i64 0)] (ev fr x) (ev fr y) := mk_eq (i := t22) (j := t3) (el := 3) (bytes := 8) (sz := 1) rfl rfl rfl rfl rfl rfl rfl rfl x y
theorem o_mk61 (x y : Operand) : opA te fr σ (.makeSlice 61 x y) = mkB 37 56 3 σ.length [.v (.bool false), .v (.slice none 0 0), .v (.slice none 0 0)] (ev fr x) (ev fr y) := mk_eq (i := t61) (j := t37) (el := 37) (bytes := 56) (sz := 3) rfl rfl rfl rfl rfl rfl rfl rfl x y
theorem o_mk78 (x y : Operand) : opA te fr σ (.makeSlice 78 x y) = mkB 69 8 1 σ.length [.v (.pointer none)] (ev fr x) (ev fr y) := mk_eq (i := t78) (j := t69) (el := 69) (bytes := 8) (sz := 1) rfl rfl rfl rfl rfl rfl rfl rfl x y
theorem o_sl22 (x : Operand) (lo hi : Option Operand) : opA te fr σ (.slice 22 x lo hi none) = slcA 1 (ev fr x) (evo fr lo) (evo fr hi) := sl_eq (i := t22) (j := t3) rfl rfl rfl rfl x lo hi
theorem o_st22 (x y : Operand) : opA te fr σ (.store 22 x y) = stS 1 σ (ev fr x) (ev fr y) := st_eq (i := t22) rfl rfl x y
theorem o_st3 (x y : Operand) : opA te fr σ (.store 3 x y) = stS 1 σ (ev fr x) (ev fr y) := st_eq (i := t3) rfl rfl x y
theorem o_st35 (x y : Operand) : opA te fr σ (.store 35 x y) = stS 2 σ (ev fr x) (ev fr y) := st_eq (i := t35) rfl rfl x y
theorem o_st37 (x y : Operand) : opA te fr σ (.store 37 x y) = stS 3 σ (ev fr x) (ev fr y) := st_eq (i := t37) rfl rfl x y
theorem o_st4 (x y : Operand) : opA te fr σ (.store 4 x y) = stS 1 σ (ev fr x) (ev fr y) := st_eq (i := t4) rfl rfl x y
theorem o_st69 (x y : Operand) : opA te fr σ (.store 69 x y) = stS 1 σ (ev fr x) (ev fr y) := st_eq (i := t69) rfl rfl x y
theorem o_cn3 (k : IntKind) (n : Int) : convA t3 (.v (.int k n)) = .val (.v (.int .i64 (IntKind.wrap .i64 n))) := rfl
theorem o_ib4 : isBool t4.desc = true := rfl
theorem o_zb22 {c : Fr → Sto → Prop} (d nm : Nat) : zB te d nm fr σ c (some 22) = c (put d (.sl nm 0 0 1) fr) σ := rfl
theorem o_zb58 {c : Fr → Sto → Prop} (d nm : Nat) : zB te d nm fr σ c (some 58) = c (put d (.sl nm 0 0 3) fr) σ := rfl
theorem o_zb61 {c : Fr → Sto → Prop} (d nm : Nat) : zB te d nm fr σ c (some 61) = c (put d (.sl nm 0 0 3) fr) σ := rfl
theorem o_ip69 : isPtr t69.desc = true := rfl
theorem o_zb78 {c : Fr → Sto → Prop} (d nm : Nat) : zB te d nm fr σ c (some 78) = c (put d (.sl nm 0 0 1) fr) σ := rfl
theorem o_cn88 (k : IntKind) (n : Int) : convA t88 (.v (.int k n)) = .val (.v (.int .u64 (IntKind.wrap .u64 n))) := rfl
end

-- NAMES o_al35 o_al37 o_ap22 o_bi22 o_bi3 o_bi4 o_bi69 o_bi88 o_bs22_0 o_bs22_1 o_bs22_3 o_bu35 o_bu37 o_bu95 o_cn3 o_cn88 o_cv3_88 o_cv88_3 o_fa30_0 o_fa30_1 o_fa32_0 o_fa32_1 o_fa35_0 o_fa35_1 o_fa37_0 o_fa37_1 o_fa95_0 o_fa95_1 o_ia22 o_ia58 o_ia61 o_ia78 o_ib4 o_ip69 o_ld22 o_ld3 o_ld30 o_ld32 o_ld35 o_ld37 o_ld4 o_ld69 o_ln22 o_ln58 o_ln61 o_mk22 o_mk61 o_mk78 o_sl22 o_st22 o_st3 o_st35 o_st37 o_st4 o_st69 o_zb22 o_zb58 o_zb61 o_zb78
theorem mixedOk : Try.prog.follows .mixedOrders = true := by kernel_rfl
end Go.Proofs.Ytdcbedkohbmnnaa.Ab
