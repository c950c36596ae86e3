/- The table of the types that this claim's functions name: written by a program of this session. -/
import Derived.Test.YtjnlpomfjlpikaaAbB
import Derived.Test.YtjnlpomfjlpikaaProg
set_option linter.unusedVariables false
set_option linter.unusedSimpArgs false
namespace Go.Proofs.Ytjnlpomfjlpikaa.Ab
open Go
def t3 : TI := ⟨.int .i64, 1, 8, .int .i64 0⟩
def t5 : TI := ⟨.int .u8, 1, 1, .int .u8 0⟩
def t9 : TI := ⟨.string, 1, 16, .string ⟨#[]⟩⟩
def t24 : TI := ⟨.int .u64, 1, 8, .int .u64 0⟩
def t28 : TI := ⟨.pointer 31, 1, 8, .pointer none⟩
def t29 : TI := ⟨.slice 5, 1, 24, .slice none 0 0⟩
def t31 : TI := ⟨.struct #[⟨ "addr", 28, 0, false, "", "strings", 0⟩, ⟨ "buf", 29, 1, false, "", "strings", 8⟩], 2, 32, .agg #[.pointer none, .slice none 0 0]⟩
def t39 : TI := ⟨.int .u32, 1, 4, .int .u32 0⟩
def t42 : TI := ⟨.int .u64, 1, 8, .int .u64 0⟩
def t45 : TI := ⟨.pointer 5, 1, 8, .pointer none⟩
def te : TE := [(3, t3), (5, t5), (9, t9), (24, t24), (28, t28), (29, t29), (31, t31), (39, t39), (42, t42), (45, t45)]
set_option maxRecDepth 100000 in
theorem teOk : TEok Try.prog te := TEok.of_all ⟨TI.mk_ok (by kernel_rfl) (by kernel_rfl), TI.mk_ok (by kernel_rfl) (by kernel_rfl), TI.mk_ok (by kernel_rfl) (by kernel_rfl), TI.mk_ok (by kernel_rfl) (by kernel_rfl), TI.mk_ok (by kernel_rfl) (by kernel_rfl), TI.mk_ok (by kernel_rfl) (by kernel_rfl), TI.mk_ok (by kernel_rfl) (by kernel_rfl), TI.mk_ok (by kernel_rfl) (by kernel_rfl), TI.mk_ok (by kernel_rfl) (by kernel_rfl), TI.mk_ok (by kernel_rfl) (by kernel_rfl), trivial⟩
section
variable {fr : Fr} {σ : Sto}
theorem o_al31 : opA te fr σ (.alloc 31) = .new ⟨31, [.v (.pointer none), .v (.slice none 0 0)]⟩ (.p σ.length 0) := alloc_eq rfl rfl
theorem o_bi24 (op : BinOp) (x y : Operand) (z : Nat) : opA te fr σ (.binOp op 24 x y z) = o2 (binA t24 op) (ev fr x) (ev fr y) := bin_eq rfl op x y z
theorem o_bi28 (op : BinOp) (x y : Operand) (z : Nat) : opA te fr σ (.binOp op 28 x y z) = o2 (binA t28 op) (ev fr x) (ev fr y) := bin_eq rfl op x y z
theorem o_bi3 (op : BinOp) (x y : Operand) (z : Nat) : opA te fr σ (.binOp op 3 x y z) = o2 (binA t3 op) (ev fr x) (ev fr y) := bin_eq rfl op x y z
theorem o_bi42 (op : BinOp) (x y : Operand) (z : Nat) : opA te fr σ (.binOp op 42 x y z) = o2 (binA t42 op) (ev fr x) (ev fr y) := bin_eq rfl op x y z
theorem o_bi5 (op : BinOp) (x y : Operand) (z : Nat) : opA te fr σ (.binOp op 5 x y z) = o2 (binA t5 op) (ev fr x) (ev fr y) := bin_eq rfl op x y z
theorem o_bi9 (op : BinOp) (x y : Operand) (z : Nat) : opA te fr σ (.binOp op 9 x y z) = o2 (binA t9 op) (ev fr x) (ev fr y) := bin_eq rfl op x y z
theorem o_cv24_3 (x : Operand) : opA te fr σ (.convert 24 3 x) = o1 (convA t3) (ev fr x) := cv_eq rfl rfl rfl x
theorem o_cv24_39 (x : Operand) : opA te fr σ (.convert 24 39 x) = o1 (convA t39) (ev fr x) := cv_eq rfl rfl rfl x
theorem o_cv39_24 (x : Operand) : opA te fr σ (.convert 39 24 x) = o1 (convA t24) (ev fr x) := cv_eq rfl rfl rfl x
theorem o_cv39_42 (x : Operand) : opA te fr σ (.convert 39 42 x) = o1 (convA t42) (ev fr x) := cv_eq rfl rfl rfl x
theorem o_cv3_24 (x : Operand) : opA te fr σ (.convert 3 24 x) = o1 (convA t24) (ev fr x) := cv_eq rfl rfl rfl x
theorem o_cv42_39 (x : Operand) : opA te fr σ (.convert 42 39 x) = o1 (convA t39) (ev fr x) := cv_eq rfl rfl rfl x
theorem o_fa31_0 (x : Operand) : opA te fr σ (.fieldAddr 31 x 0) = faA 0 (ev fr x) := fa_eq (i := t31) (j := t28) (off := 0) rfl rfl rfl rfl rfl x
theorem o_fa31_1 (x : Operand) : opA te fr σ (.fieldAddr 31 x 1) = faA 1 (ev fr x) := fa_eq (i := t31) (j := t29) (off := 1) rfl rfl rfl rfl rfl x
theorem o_ix9 (x y : Operand) : opA te fr σ (.index 9 x y) = ixS (ev fr x) (ev fr y) := ix_eq rfl rfl x y
theorem o_ld28 (x : Operand) : opA te fr σ (.load 28 x) = ld1 σ (ev fr x) := ld1_eq rfl rfl x
theorem o_ld29 (x : Operand) : opA te fr σ (.load 29 x) = ld1 σ (ev fr x) := ld1_eq rfl rfl x
theorem o_ln29 (x : Operand) : opA te fr σ (.call ⟨.builtin .len, #[x], #[29]⟩) = lnA (ev fr x) := ln_eq rfl rfl x
theorem o_ln9 (x : Operand) : opA te fr σ (.call ⟨.builtin .len, #[x], #[9]⟩) = lnS (ev fr x) := lns_eq rfl rfl x
theorem o_sl29 (x : Operand) (lo hi : Option Operand) : opA te fr σ (.slice 29 x lo hi none) = slcA 1 (ev fr x) (evo fr lo) (evo fr hi) := sl_eq (i := t29) (j := t5) rfl rfl rfl rfl x lo hi
theorem o_sl9 (x : Operand) (lo hi : Option Operand) : opA te fr σ (.slice 9 x lo hi none) = slsA (ev fr x) (evo fr lo) (evo fr hi) := sls_eq rfl rfl x lo hi
theorem o_st28 (x y : Operand) : opA te fr σ (.store 28 x y) = stS 1 σ (ev fr x) (ev fr y) := st_eq (i := t28) rfl rfl x y
theorem o_st29 (x y : Operand) : opA te fr σ (.store 29 x y) = stS 1 σ (ev fr x) (ev fr y) := st_eq (i := t29) rfl rfl x y
theorem o_cn3 (k : IntKind) (n : Int) : convA t3 (.v (.int k n)) = .val (.v (.int .i64 (IntKind.wrap .i64 n))) := rfl
theorem o_cn5 (k : IntKind) (n : Int) : convA t5 (.v (.int k n)) = .val (.v (.int .u8 (IntKind.wrap .u8 n))) := rfl
theorem o_cn24 (k : IntKind) (n : Int) : convA t24 (.v (.int k n)) = .val (.v (.int .u64 (IntKind.wrap .u64 n))) := rfl
theorem o_ip28 : isPtr t28.desc = true := rfl
theorem o_zb29 {c : Fr → Sto → Prop} {op : Op} (d nm : Nat) : zB te d nm fr σ c op (some 29) = c (put d (.sl nm 0 0 1) fr) σ := rfl
theorem o_cn39 (k : IntKind) (n : Int) : convA t39 (.v (.int k n)) = .val (.v (.int .u32 (IntKind.wrap .u32 n))) := rfl
theorem o_cn42 (k : IntKind) (n : Int) : convA t42 (.v (.int k n)) = .val (.v (.int .u64 (IntKind.wrap .u64 n))) := rfl
theorem o_ip45 : isPtr t45.desc = true := rfl
end

-- NAMES o_al31 o_bi24 o_bi28 o_bi3 o_bi42 o_bi5 o_bi9 o_cn24 o_cn3 o_cn39 o_cn42 o_cn5 o_cv24_3 o_cv24_39 o_cv39_24 o_cv39_42 o_cv3_24 o_cv42_39 o_fa31_0 o_fa31_1 o_ip28 o_ip45 o_ix9 o_ld28 o_ld29 o_ln29 o_ln9 o_sl29 o_sl9 o_st28 o_st29 o_zb29
theorem mixedOk : Try.prog.follows .mixedOrders = true := by kernel_rfl
end Go.Proofs.Ytjnlpomfjlpikaa.Ab
