/- The table of the types that this claim's functions name: written by a program of this session. -/
import Derived.Test.YtjnlpomfjlpikaaDoorAbB
import Derived.Test.YtjnlpomfjlpikaaDoorProg
set_option linter.unusedVariables false
set_option linter.unusedSimpArgs false
namespace Go.Proofs.YtjnlpomfjlpikaaDoor.Ab
open Go
def t2 : TI := ⟨.int .i64, 1, 8, .int .i64 0⟩
def t3 : TI := ⟨.int .i64, 1, 8, .int .i64 0⟩
def t4 : TI := ⟨.bool, 1, 1, .bool false⟩
def t5 : TI := ⟨.int .u8, 1, 1, .int .u8 0⟩
def t9 : TI := ⟨.string, 1, 16, .string ⟨#[]⟩⟩
def t21 : TI := ⟨.int .i32, 1, 4, .int .i32 0⟩
def t22 : TI := ⟨.slice 3, 1, 24, .slice none 0 0⟩
def t29 : TI := ⟨.struct #[⟨ "Neg", 4, 0, false, "", "", 0⟩, ⟨ "Mag", 22, 1, false, "", "", 8⟩], 2, 32, .agg #[.bool false, .slice none 0 0]⟩
def t34 : TI := ⟨.slice 5, 1, 24, .slice none 0 0⟩
def t41 : TI := ⟨.slice 9, 1, 24, .slice none 0 0⟩
def t51 : TI := ⟨.struct #[⟨ "Neg", 4, 0, false, "", "", 0⟩, ⟨ "Mag", 22, 1, false, "", "", 8⟩], 2, 32, .agg #[.bool false, .slice none 0 0]⟩
def t73 : TI := ⟨.pointer 75, 1, 8, .pointer none⟩
def t75 : TI := ⟨.struct #[⟨ "addr", 73, 0, false, "", "strings", 0⟩, ⟨ "buf", 34, 1, false, "", "strings", 8⟩], 2, 32, .agg #[.pointer none, .slice none 0 0]⟩
def t78 : TI := ⟨.struct #[⟨ "b", 34, 0, false, "", "loop.example/g00830/spec", 0⟩, ⟨ "i", 3, 1, false, "", "loop.example/g00830/spec", 24⟩, ⟨ "h", 3, 2, false, "", "loop.example/g00830/spec", 32⟩], 3, 40, .agg #[.slice none 0 0, .int .i64 0, .int .i64 0]⟩
def t79 : TI := ⟨.int .u64, 1, 8, .int .u64 0⟩
def t90 : TI := ⟨.pointer 5, 1, 8, .pointer none⟩
def t96 : TI := ⟨.int .u64, 1, 8, .int .u64 0⟩
def t120 : TI := ⟨.struct #[⟨ "s", 9, 0, false, "", "errors", 0⟩], 1, 16, .agg #[.string ⟨#[]⟩]⟩
def t121 : TI := ⟨.int .u32, 1, 4, .int .u32 0⟩
def t134 : TI := ⟨.struct #[⟨ "lo", 5, 0, false, "", "unicode/utf8", 0⟩, ⟨ "hi", 5, 1, false, "", "unicode/utf8", 1⟩], 2, 2, .agg #[.int .u8 0, .int .u8 0]⟩
def te : TE := [(2, t2), (3, t3), (4, t4), (5, t5), (9, t9), (21, t21), (22, t22), (29, t29), (34, t34), (41, t41), (51, t51), (73, t73), (75, t75), (78, t78), (79, t79), (90, t90), (96, t96), (120, t120), (121, t121), (134, t134)]
set_option maxRecDepth 100000 in
theorem teOk : TEok Tryd.prog te := TEok.of_all ⟨TI.mk_ok (by kernel_rfl) (by kernel_rfl), TI.mk_ok (by kernel_rfl) (by kernel_rfl), TI.mk_ok (by kernel_rfl) (by kernel_rfl), TI.mk_ok (by kernel_rfl) (by kernel_rfl), TI.mk_ok (by kernel_rfl) (by kernel_rfl), TI.mk_ok (by kernel_rfl) (by kernel_rfl), TI.mk_ok (by kernel_rfl) (by kernel_rfl), TI.mk_ok (by kernel_rfl) (by kernel_rfl), TI.mk_ok (by kernel_rfl) (by kernel_rfl), TI.mk_ok (by kernel_rfl) (by kernel_rfl), TI.mk_ok (by kernel_rfl) (by kernel_rfl), TI.mk_ok (by kernel_rfl) (by kernel_rfl), TI.mk_ok (by kernel_rfl) (by kernel_rfl), TI.mk_ok (by kernel_rfl) (by kernel_rfl), TI.mk_ok (by kernel_rfl) (by kernel_rfl), TI.mk_ok (by kernel_rfl) (by kernel_rfl), TI.mk_ok (by kernel_rfl) (by kernel_rfl), TI.mk_ok (by kernel_rfl) (by kernel_rfl), TI.mk_ok (by kernel_rfl) (by kernel_rfl), TI.mk_ok (by kernel_rfl) (by kernel_rfl), trivial⟩
-- no row: load (57, ('Go.Operand.global', 0)) 'NoneType' object is not subscriptable
-- no row: build (101, [(0, ('Go.Operand.tmp', 5)), (1, ('Go.Operand.tmp', 7)), (2, ('Go.Operand.tmp', 8))]) 'NoneType' object is not subscriptable
-- no row: load (57, ('Go.Operand.global', 1)) 'NoneType' object is not subscriptable
-- no row: build (101, [(0, ('Go.Operand.tmp', 5)), (1, ('Go.Operand.tmp', 7)), (2, ('Go.Operand.tmp', 8))]) 'NoneType' object is not subscriptable
-- no row: build (101, [(0, ('Go.Operand.tmp', 7)), (1, ('Go.Operand.tmp', 9)), (2, ('Go.Operand.tmp', 13))]) 'NoneType' object is not subscriptable
-- no row: build (101, [(0, ('Go.Operand.tmp', 7)), (1, ('Go.Operand.tmp', 9)), (2, ('Go.Operand.tmp', 13))]) 'NoneType' object is not subscriptable
-- no row: slice (108, ('Go.Operand.tmp', 5)) 'NoneType' object is not subscriptable
-- no row: indexAddr (108, ('Go.Operand.tmp', 5)) 'NoneType' object is not subscriptable
-- no row: slice (108, ('Go.Operand.tmp', 5)) 'NoneType' object is not subscriptable
-- no row: slice (108, ('Go.Operand.tmp', 5)) 'NoneType' object is not subscriptable
-- no row: indexAddr (128, ('Go.Operand.global', 3)) 'NoneType' object is not subscriptable
-- no row: indexAddr (129, ('Go.Operand.tmp', 12)) 'NoneType' object is not subscriptable
-- no row: indexAddr (129, ('Go.Operand.tmp', 12)) 'NoneType' object is not subscriptable
-- no row: indexAddr (129, ('Go.Operand.tmp', 12)) 'NoneType' object is not subscriptable
-- no row: indexAddr (129, ('Go.Operand.tmp', 12)) 'NoneType' object is not subscriptable
-- no row: indexAddr (129, ('Go.Operand.tmp', 12)) 'NoneType' object is not subscriptable
-- no row: slice (129, ('Go.Operand.tmp', 12)) 'NoneType' object is not subscriptable
-- no row: slice (129, ('Go.Operand.tmp', 12)) 'NoneType' object is not subscriptable
-- no row: indexAddr (132, ('Go.Operand.global', 4)) list index out of range
-- no row: indexAddr (137, ('Go.Operand.global', 6)) 'NoneType' object is not subscriptable
-- no row: indexAddr (138, ('Go.Operand.global', 7)) 'NoneType' object is not subscriptable
-- no row: build (137, [(0, ('Go.Operand.const', ('Go.Value.int', 'Go.IntKind.u8', 0))), (1, ('Go.Operand.const', ('Go.Value.int', 'Go.IntKind.u8', 1))), (2, ('Go.Operand.const', ('Go.Value.int', 'Go.IntKind.u8', 28))), (3, ('Go.Operand.const', ('Go.Value.int', 'Go.IntKind.u8', 2))), (4, ('Go.Operand.const', ('Go.Value.int', 'Go.IntKind.u8', 29))), (5, ('Go.Operand.const', ('Go.Value.int', 'Go.IntKind.u8', 14))), (6, ('Go.Operand.const', ('Go.Value.int', 'Go.IntKind.u8', 24))), (7, ('Go.Operand.const', ('Go.Value.int', 'Go.IntKind.u8', 3))), (8, ('Go.Operand.const', ('Go.Value.int', 'Go.IntKind.u8', 30))), (9, ('Go.Operand.const', ('Go.Value.int', 'Go.IntKind.u8', 22))), (10, ('Go.Operand.const', ('Go.Value.int', 'Go.IntKind.u8', 20))), (11, ('Go.Operand.const', ('Go.Value.int', 'Go.IntKind.u8', 15))), (12, ('Go.Operand.const', ('Go.Value.int', 'Go.IntKind.u8', 25))), (13, ('Go.Operand.const', ('Go.Value.int', 'Go.IntKind.u8', 17))), (14, ('Go.Operand.const', ('Go.Value.int', 'Go.IntKind.u8', 4))), (15, ('Go.Operand.const', ('Go.Value.int', 'Go.IntKind.u8', 8))), (16, ('Go.Operand.const', ('Go.Value.int', 'Go.IntKind.u8', 31))), (17, ('Go.Operand.const', ('Go.Value.int', 'Go.IntKind.u8', 27))), (18, ('Go.Operand.const', ('Go.Value.int', 'Go.IntKind.u8', 13))), (19, ('Go.Operand.const', ('Go.Value.int', 'Go.IntKind.u8', 23))), (20, ('Go.Operand.const', ('Go.Value.int', 'Go.IntKind.u8', 21))), (21, ('Go.Operand.const', ('Go.Value.int', 'Go.IntKind.u8', 19))), (22, ('Go.Operand.const', ('Go.Value.int', 'Go.IntKind.u8', 16))), (23, ('Go.Operand.const', ('Go.Value.int', 'Go.IntKind.u8', 7))), (24, ('Go.Operand.const', ('Go.Value.int', 'Go.IntKind.u8', 26))), (25, ('Go.Operand.const', ('Go.Value.int', 'Go.IntKind.u8', 12))), (26, ('Go.Operand.const', ('Go.Value.int', 'Go.IntKind.u8', 18))), (27, ('Go.Operand.const', ('Go.Value.int', 'Go.IntKind.u8', 6))), (28, ('Go.Operand.const', ('Go.Value.int', 'Go.IntKind.u8', 11))), (29, ('Go.Operand.const', ('Go.Value.int', 'Go.IntKind.u8', 5))), (30, ('Go.Operand.const', ('Go.Value.int', 'Go.IntKind.u8', 10))), (31, ('Go.Operand.const', ('Go.Value.int', 'Go.IntKind.u8', 9)))]) 'int' object is not iterable
-- no row: build (138, [(0, ('Go.Operand.const', ('Go.Value.int', 'Go.IntKind.u8', 0))), (1, ('Go.Operand.const', ('Go.Value.int', 'Go.IntKind.u8', 1))), (2, ('Go.Operand.const', ('Go.Value.int', 'Go.IntKind.u8', 56))), (3, ('Go.Operand.const', ('Go.Value.int', 'Go.IntKind.u8', 2))), (4, ('Go.Operand.const', ('Go.Value.int', 'Go.IntKind.u8', 57))), (5, ('Go.Operand.const', ('Go.Value.int', 'Go.IntKind.u8', 49))), (6, ('Go.Operand.const', ('Go.Value.int', 'Go.IntKind.u8', 28))), (7, ('Go.Operand.const', ('Go.Value.int', 'Go.IntKind.u8', 3))), (8, ('Go.Operand.const', ('Go.Value.int', 'Go.IntKind.u8', 61))), (9, ('Go.Operand.const', ('Go.Value.int', 'Go.IntKind.u8', 58))), (10, ('Go.Operand.const', ('Go.Value.int', 'Go.IntKind.u8', 42))), (11, ('Go.Operand.const', ('Go.Value.int', 'Go.IntKind.u8', 50))), (12, ('Go.Operand.const', ('Go.Value.int', 'Go.IntKind.u8', 38))), (13, ('Go.Operand.const', ('Go.Value.int', 'Go.IntKind.u8', 29))), (14, ('Go.Operand.const', ('Go.Value.int', 'Go.IntKind.u8', 17))), (15, ('Go.Operand.const', ('Go.Value.int', 'Go.IntKind.u8', 4))), (16, ('Go.Operand.const', ('Go.Value.int', 'Go.IntKind.u8', 62))), (17, ('Go.Operand.const', ('Go.Value.int', 'Go.IntKind.u8', 47))), (18, ('Go.Operand.const', ('Go.Value.int', 'Go.IntKind.u8', 59))), (19, ('Go.Operand.const', ('Go.Value.int', 'Go.IntKind.u8', 36))), (20, ('Go.Operand.const', ('Go.Value.int', 'Go.IntKind.u8', 45))), (21, ('Go.Operand.const', ('Go.Value.int', 'Go.IntKind.u8', 43))), (22, ('Go.Operand.const', ('Go.Value.int', 'Go.IntKind.u8', 51))), (23, ('Go.Operand.const', ('Go.Value.int', 'Go.IntKind.u8', 22))), (24, ('Go.Operand.const', ('Go.Value.int', 'Go.IntKind.u8', 53))), (25, ('Go.Operand.const', ('Go.Value.int', 'Go.IntKind.u8', 39))), (26, ('Go.Operand.const', ('Go.Value.int', 'Go.IntKind.u8', 33))), (27, ('Go.Operand.const', ('Go.Value.int', 'Go.IntKind.u8', 30))), (28, ('Go.Operand.const', ('Go.Value.int', 'Go.IntKind.u8', 24))), (29, ('Go.Operand.const', ('Go.Value.int', 'Go.IntKind.u8', 18))), (30, ('Go.Operand.const', ('Go.Value.int', 'Go.IntKind.u8', 12))), (31, ('Go.Operand.const', ('Go.Value.int', 'Go.IntKind.u8', 5))), (32, ('Go.Operand.const', ('Go.Value.int', 'Go.IntKind.u8', 63))), (33, ('Go.Operand.const', ('Go.Value.int', 'Go.IntKind.u8', 55))), (34, ('Go.Operand.const', ('Go.Value.int', 'Go.IntKind.u8', 48))), (35, ('Go.Operand.const', ('Go.Value.int', 'Go.IntKind.u8', 27))), (36, ('Go.Operand.const', ('Go.Value.int', 'Go.IntKind.u8', 60))), (37, ('Go.Operand.const', ('Go.Value.int', 'Go.IntKind.u8', 41))), (38, ('Go.Operand.const', ('Go.Value.int', 'Go.IntKind.u8', 37))), (39, ('Go.Operand.const', ('Go.Value.int', 'Go.IntKind.u8', 16))), (40, ('Go.Operand.const', ('Go.Value.int', 'Go.IntKind.u8', 46))), (41, ('Go.Operand.const', ('Go.Value.int', 'Go.IntKind.u8', 35))), (42, ('Go.Operand.const', ('Go.Value.int', 'Go.IntKind.u8', 44))), (43, ('Go.Operand.const', ('Go.Value.int', 'Go.IntKind.u8', 21))), (44, ('Go.Operand.const', ('Go.Value.int', 'Go.IntKind.u8', 52))), (45, ('Go.Operand.const', ('Go.Value.int', 'Go.IntKind.u8', 32))), (46, ('Go.Operand.const', ('Go.Value.int', 'Go.IntKind.u8', 23))), (47, ('Go.Operand.const', ('Go.Value.int', 'Go.IntKind.u8', 11))), (48, ('Go.Operand.const', ('Go.Value.int', 'Go.IntKind.u8', 54))), (49, ('Go.Operand.const', ('Go.Value.int', 'Go.IntKind.u8', 26))), (50, ('Go.Operand.const', ('Go.Value.int', 'Go.IntKind.u8', 40))), (51, ('Go.Operand.const', ('Go.Value.int', 'Go.IntKind.u8', 15))), (52, ('Go.Operand.const', ('Go.Value.int', 'Go.IntKind.u8', 34))), (53, ('Go.Operand.const', ('Go.Value.int', 'Go.IntKind.u8', 20))), (54, ('Go.Operand.const', ('Go.Value.int', 'Go.IntKind.u8', 31))), (55, ('Go.Operand.const', ('Go.Value.int', 'Go.IntKind.u8', 10))), (56, ('Go.Operand.const', ('Go.Value.int', 'Go.IntKind.u8', 25))), (57, ('Go.Operand.const', ('Go.Value.int', 'Go.IntKind.u8', 14))), (58, ('Go.Operand.const', ('Go.Value.int', 'Go.IntKind.u8', 19))), (59, ('Go.Operand.const', ('Go.Value.int', 'Go.IntKind.u8', 9))), (60, ('Go.Operand.const', ('Go.Value.int', 'Go.IntKind.u8', 13))), (61, ('Go.Operand.const', ('Go.Value.int', 'Go.IntKind.u8', 8))), (62, ('Go.Operand.const', ('Go.Value.int', 'Go.IntKind.u8', 7))), (63, ('Go.Operand.const', ('Go.Value.int', 'Go.IntKind.u8', 6)))]) 'int' object is not iterable
-- no row: build (128, [(0, ('Go.Operand.const', ('Go.Value.int', 'Go.IntKind.u64', 1))), (1, ('Go.Operand.const', ('Go.Value.int', 'Go.IntKind.u64', 10))), (2, ('Go.Operand.const', ('Go.Value.int', 'Go.IntKind.u64', 100))), (3, ('Go.Operand.const', ('Go.Value.int', 'Go.IntKind.u64', 1000))), (4, ('Go.Operand.const', ('Go.Value.int', 'Go.IntKind.u64', 10000))), (5, ('Go.Operand.const', ('Go.Value.int', 'Go.IntKind.u64', 100000))), (6, ('Go.Operand.const', ('Go.Value.int', 'Go.IntKind.u64', 1000000))), (7, ('Go.Operand.const', ('Go.Value.int', 'Go.IntKind.u64', 10000000))), (8, ('Go.Operand.const', ('Go.Value.int', 'Go.IntKind.u64', 100000000))), (9, ('Go.Operand.const', ('Go.Value.int', 'Go.IntKind.u64', 1000000000))), (10, ('Go.Operand.const', ('Go.Value.int', 'Go.IntKind.u64', 10000000000))), (11, ('Go.Operand.const', ('Go.Value.int', 'Go.IntKind.u64', 100000000000))), (12, ('Go.Operand.const', ('Go.Value.int', 'Go.IntKind.u64', 1000000000000))), (13, ('Go.Operand.const', ('Go.Value.int', 'Go.IntKind.u64', 10000000000000))), (14, ('Go.Operand.const', ('Go.Value.int', 'Go.IntKind.u64', 100000000000000))), (15, ('Go.Operand.const', ('Go.Value.int', 'Go.IntKind.u64', 1000000000000000))), (16, ('Go.Operand.const', ('Go.Value.int', 'Go.IntKind.u64', 10000000000000000))), (17, ('Go.Operand.const', ('Go.Value.int', 'Go.IntKind.u64', 100000000000000000))), (18, ('Go.Operand.const', ('Go.Value.int', 'Go.IntKind.u64', 1000000000000000000))), (19, ('Go.Operand.const', ('Go.Value.int', 'Go.IntKind.u64', 10000000000000000000)))]) 'int' object is not iterable
-- no row: build (135, [(0, ('Go.Operand.tmp', 3)), (1, ('Go.Operand.tmp', 4)), (2, ('Go.Operand.tmp', 5)), (3, ('Go.Operand.tmp', 6)), (4, ('Go.Operand.tmp', 7))]) 'int' object is not iterable
-- no row: store (57, ('Go.Operand.global', 1)) 'NoneType' object is not subscriptable
-- no row: store (57, ('Go.Operand.global', 0)) 'NoneType' object is not subscriptable
section
variable {fr : Fr} {σ : Sto}
theorem o_al134 : opA te fr σ (.alloc 134) = .new ⟨134, [.v (.int .u8 0), .v (.int .u8 0)]⟩ (.p σ.length 0) := alloc_eq rfl rfl
theorem o_al29 : opA te fr σ (.alloc 29) = .new ⟨29, [.v (.bool false), .v (.slice none 0 0)]⟩ (.p σ.length 0) := alloc_eq rfl rfl
theorem o_al75 : opA te fr σ (.alloc 75) = .new ⟨75, [.v (.pointer none), .v (.slice none 0 0)]⟩ (.p σ.length 0) := alloc_eq rfl rfl
theorem o_ap22 (x y : Operand) : opA te fr σ (.call ⟨.builtin .append, #[x, y], #[22, 22]⟩) = apA 3 8 1 σ (ev fr x) (ev fr y) := ap_eq (i := t22) (j := t3) (el := 3) (bytes := 8) (sz := 1) rfl rfl rfl rfl rfl rfl rfl x y
theorem o_ap34 (x y : Operand) : opA te fr σ (.call ⟨.builtin .append, #[x, y], #[34, 34]⟩) = apA 5 1 1 σ (ev fr x) (ev fr y) := ap_eq (i := t34) (j := t5) (el := 5) (bytes := 1) (sz := 1) rfl rfl rfl rfl rfl rfl rfl x y
theorem o_ap41 (x y : Operand) : opA te fr σ (.call ⟨.builtin .append, #[x, y], #[41, 41]⟩) = apA 9 16 1 σ (ev fr x) (ev fr y) := ap_eq (i := t41) (j := t9) (el := 9) (bytes := 16) (sz := 1) rfl rfl rfl rfl rfl rfl rfl x y
theorem o_bi121 (op : BinOp) (x y : Operand) (z : Nat) : opA te fr σ (.binOp op 121 x y z) = o2 (binA t121 op) (ev fr x) (ev fr y) := bin_eq rfl op x y z
theorem o_bi2 (op : BinOp) (x y : Operand) (z : Nat) : opA te fr σ (.binOp op 2 x y z) = o2 (binA t2 op) (ev fr x) (ev fr y) := bin_eq rfl op x y z
theorem o_bi21 (op : BinOp) (x y : Operand) (z : Nat) : opA te fr σ (.binOp op 21 x y z) = o2 (binA t21 op) (ev fr x) (ev fr y) := bin_eq rfl op x y z
theorem o_bi3 (op : BinOp) (x y : Operand) (z : Nat) : opA te fr σ (.binOp op 3 x y z) = o2 (binA t3 op) (ev fr x) (ev fr y) := bin_eq rfl op x y z
theorem o_bi4 (op : BinOp) (x y : Operand) (z : Nat) : opA te fr σ (.binOp op 4 x y z) = o2 (binA t4 op) (ev fr x) (ev fr y) := bin_eq rfl op x y z
theorem o_bi5 (op : BinOp) (x y : Operand) (z : Nat) : opA te fr σ (.binOp op 5 x y z) = o2 (binA t5 op) (ev fr x) (ev fr y) := bin_eq rfl op x y z
theorem o_bi73 (op : BinOp) (x y : Operand) (z : Nat) : opA te fr σ (.binOp op 73 x y z) = o2 (binA t73 op) (ev fr x) (ev fr y) := bin_eq rfl op x y z
theorem o_bi79 (op : BinOp) (x y : Operand) (z : Nat) : opA te fr σ (.binOp op 79 x y z) = o2 (binA t79 op) (ev fr x) (ev fr y) := bin_eq rfl op x y z
theorem o_bi9 (op : BinOp) (x y : Operand) (z : Nat) : opA te fr σ (.binOp op 9 x y z) = o2 (binA t9 op) (ev fr x) (ev fr y) := bin_eq rfl op x y z
theorem o_bi96 (op : BinOp) (x y : Operand) (z : Nat) : opA te fr σ (.binOp op 96 x y z) = o2 (binA t96 op) (ev fr x) (ev fr y) := bin_eq rfl op x y z
theorem o_bs22_0 (a : Array (Nat × Operand)) : opA te fr σ (.buildSlice 22 0 a) = bsl 3 σ.length 0 1 [] (evp fr a.toList) := bs_eq (i := t22) (j := t3) (el := 3) (sz := 1) rfl rfl rfl rfl rfl 0 rfl rfl a
theorem o_bs22_1 (a : Array (Nat × Operand)) : opA te fr σ (.buildSlice 22 1 a) = bsl 3 σ.length 1 1 [.v (.int .i64 0)] (evp fr a.toList) := bs_eq (i := t22) (j := t3) (el := 3) (sz := 1) rfl rfl rfl rfl rfl 1 rfl rfl a
theorem o_bs34_1 (a : Array (Nat × Operand)) : opA te fr σ (.buildSlice 34 1 a) = bsl 5 σ.length 1 1 [.v (.int .u8 0)] (evp fr a.toList) := bs_eq (i := t34) (j := t5) (el := 5) (sz := 1) rfl rfl rfl rfl rfl 1 rfl rfl a
theorem o_bs41_0 (a : Array (Nat × Operand)) : opA te fr σ (.buildSlice 41 0 a) = bsl 9 σ.length 0 1 [] (evp fr a.toList) := bs_eq (i := t41) (j := t9) (el := 9) (sz := 1) rfl rfl rfl rfl rfl 0 rfl rfl a
theorem o_bs41_1 (a : Array (Nat × Operand)) : opA te fr σ (.buildSlice 41 1 a) = bsl 9 σ.length 1 1 [.v (.string ⟨#[]⟩)] (evp fr a.toList) := bs_eq (i := t41) (j := t9) (el := 9) (sz := 1) rfl rfl rfl rfl rfl 1 rfl rfl a
theorem o_bs41_5 (a : Array (Nat × Operand)) : opA te fr σ (.buildSlice 41 5 a) = bsl 9 σ.length 5 1 [.v (.string ⟨#[]⟩), .v (.string ⟨#[]⟩), .v (.string ⟨#[]⟩), .v (.string ⟨#[]⟩), .v (.string ⟨#[]⟩)] (evp fr a.toList) := bs_eq (i := t41) (j := t9) (el := 9) (sz := 1) rfl rfl rfl rfl rfl 5 rfl rfl a
theorem o_bu120 (a : Array (Nat × Operand)) : opA te fr σ (.build 120 a) = bld [.v (.string ⟨#[]⟩)] [(0, 1)] (evp fr a.toList) := build_eq (i := t120) (ps := [(0, 1)]) rfl rfl rfl rfl a
theorem o_bu134 (a : Array (Nat × Operand)) : opA te fr σ (.build 134 a) = bld [.v (.int .u8 0), .v (.int .u8 0)] [(0, 1), (1, 1)] (evp fr a.toList) := build_eq (i := t134) (ps := [(0, 1), (1, 1)]) rfl rfl rfl rfl a
theorem o_bu29 (a : Array (Nat × Operand)) : opA te fr σ (.build 29 a) = bld [.v (.bool false), .v (.slice none 0 0)] [(0, 1), (1, 1)] (evp fr a.toList) := build_eq (i := t29) (ps := [(0, 1), (1, 1)]) rfl rfl rfl rfl a
theorem o_bu78 (a : Array (Nat × Operand)) : opA te fr σ (.build 78 a) = bld [.v (.slice none 0 0), .v (.int .i64 0), .v (.int .i64 0)] [(0, 1), (1, 1), (2, 1)] (evp fr a.toList) := build_eq (i := t78) (ps := [(0, 1), (1, 1), (2, 1)]) rfl rfl rfl rfl a
theorem o_cv121_5 (x : Operand) : opA te fr σ (.convert 121 5 x) = o1 (convA t5) (ev fr x) := cv_eq rfl rfl rfl x
theorem o_cv121_79 (x : Operand) : opA te fr σ (.convert 121 79 x) = o1 (convA t79) (ev fr x) := cv_eq rfl rfl rfl x
theorem o_cv121_96 (x : Operand) : opA te fr σ (.convert 121 96 x) = o1 (convA t96) (ev fr x) := cv_eq rfl rfl rfl x
theorem o_cv2_96 (x : Operand) : opA te fr σ (.convert 2 96 x) = o1 (convA t96) (ev fr x) := cv_eq rfl rfl rfl x
theorem o_cv34_9 (x : Operand) : opA te fr σ (.convert 34 9 x) = cvS σ (ev fr x) := cvs_eq (j := t34) (q := t5) rfl rfl rfl rfl rfl x
theorem o_cv3_5 (x : Operand) : opA te fr σ (.convert 3 5 x) = o1 (convA t5) (ev fr x) := cv_eq rfl rfl rfl x
theorem o_cv3_79 (x : Operand) : opA te fr σ (.convert 3 79 x) = o1 (convA t79) (ev fr x) := cv_eq rfl rfl rfl x
theorem o_cv3_96 (x : Operand) : opA te fr σ (.convert 3 96 x) = o1 (convA t96) (ev fr x) := cv_eq rfl rfl rfl x
theorem o_cv5_121 (x : Operand) : opA te fr σ (.convert 5 121 x) = o1 (convA t121) (ev fr x) := cv_eq rfl rfl rfl x
theorem o_cv5_21 (x : Operand) : opA te fr σ (.convert 5 21 x) = o1 (convA t21) (ev fr x) := cv_eq rfl rfl rfl x
theorem o_cv5_3 (x : Operand) : opA te fr σ (.convert 5 3 x) = o1 (convA t3) (ev fr x) := cv_eq rfl rfl rfl x
theorem o_cv5_96 (x : Operand) : opA te fr σ (.convert 5 96 x) = o1 (convA t96) (ev fr x) := cv_eq rfl rfl rfl x
theorem o_cv79_121 (x : Operand) : opA te fr σ (.convert 79 121 x) = o1 (convA t121) (ev fr x) := cv_eq rfl rfl rfl x
theorem o_cv79_3 (x : Operand) : opA te fr σ (.convert 79 3 x) = o1 (convA t3) (ev fr x) := cv_eq rfl rfl rfl x
theorem o_cv96_121 (x : Operand) : opA te fr σ (.convert 96 121 x) = o1 (convA t121) (ev fr x) := cv_eq rfl rfl rfl x
theorem o_cv96_2 (x : Operand) : opA te fr σ (.convert 96 2 x) = o1 (convA t2) (ev fr x) := cv_eq rfl rfl rfl x
theorem o_cv96_5 (x : Operand) : opA te fr σ (.convert 96 5 x) = o1 (convA t5) (ev fr x) := cv_eq rfl rfl rfl x
theorem o_fa134_0 (x : Operand) : opA te fr σ (.fieldAddr 134 x 0) = faA 0 (ev fr x) := fa_eq (i := t134) (j := t5) (off := 0) rfl rfl rfl rfl rfl x
theorem o_fa134_1 (x : Operand) : opA te fr σ (.fieldAddr 134 x 1) = faA 1 (ev fr x) := fa_eq (i := t134) (j := t5) (off := 1) rfl rfl rfl rfl rfl x
theorem o_fa29_0 (x : Operand) : opA te fr σ (.fieldAddr 29 x 0) = faA 0 (ev fr x) := fa_eq (i := t29) (j := t4) (off := 0) rfl rfl rfl rfl rfl x
theorem o_fa29_1 (x : Operand) : opA te fr σ (.fieldAddr 29 x 1) = faA 1 (ev fr x) := fa_eq (i := t29) (j := t22) (off := 1) rfl rfl rfl rfl rfl x
theorem o_fa51_0 (x : Operand) : opA te fr σ (.fieldAddr 51 x 0) = faA 0 (ev fr x) := fa_eq (i := t51) (j := t4) (off := 0) rfl rfl rfl rfl rfl x
theorem o_fa51_1 (x : Operand) : opA te fr σ (.fieldAddr 51 x 1) = faA 1 (ev fr x) := fa_eq (i := t51) (j := t22) (off := 1) rfl rfl rfl rfl rfl x
theorem o_fa75_0 (x : Operand) : opA te fr σ (.fieldAddr 75 x 0) = faA 0 (ev fr x) := fa_eq (i := t75) (j := t73) (off := 0) rfl rfl rfl rfl rfl x
theorem o_fa75_1 (x : Operand) : opA te fr σ (.fieldAddr 75 x 1) = faA 1 (ev fr x) := fa_eq (i := t75) (j := t34) (off := 1) rfl rfl rfl rfl rfl x
theorem o_fa78_0 (x : Operand) : opA te fr σ (.fieldAddr 78 x 0) = faA 0 (ev fr x) := fa_eq (i := t78) (j := t34) (off := 0) rfl rfl rfl rfl rfl x
theorem o_fa78_1 (x : Operand) : opA te fr σ (.fieldAddr 78 x 1) = faA 1 (ev fr x) := fa_eq (i := t78) (j := t3) (off := 1) rfl rfl rfl rfl rfl x
theorem o_fa78_2 (x : Operand) : opA te fr σ (.fieldAddr 78 x 2) = faA 2 (ev fr x) := fa_eq (i := t78) (j := t3) (off := 2) rfl rfl rfl rfl rfl x
theorem o_ia22 (x y : Operand) : opA te fr σ (.indexAddr 22 x y) = iaA 1 (ev fr x) (ev fr y) := ia_eq (i := t22) (j := t3) rfl rfl rfl rfl x y
theorem o_ia34 (x y : Operand) : opA te fr σ (.indexAddr 34 x y) = iaA 1 (ev fr x) (ev fr y) := ia_eq (i := t34) (j := t5) rfl rfl rfl rfl x y
theorem o_ia41 (x y : Operand) : opA te fr σ (.indexAddr 41 x y) = iaA 1 (ev fr x) (ev fr y) := ia_eq (i := t41) (j := t9) rfl rfl rfl rfl x y
theorem o_ix9 (x y : Operand) : opA te fr σ (.index 9 x y) = ixS (ev fr x) (ev fr y) := ix_eq rfl rfl x y
theorem o_ld134 (x : Operand) : opA te fr σ (.load 134 x) = ldn 2 σ (ev fr x) := ldn_eq (i := t134) rfl rfl rfl x
theorem o_ld22 (x : Operand) : opA te fr σ (.load 22 x) = ld1 σ (ev fr x) := ld1_eq rfl rfl x
theorem o_ld29 (x : Operand) : opA te fr σ (.load 29 x) = ldn 2 σ (ev fr x) := ldn_eq (i := t29) rfl rfl rfl x
theorem o_ld3 (x : Operand) : opA te fr σ (.load 3 x) = ld1 σ (ev fr x) := ld1_eq rfl rfl x
theorem o_ld34 (x : Operand) : opA te fr σ (.load 34 x) = ld1 σ (ev fr x) := ld1_eq rfl rfl x
theorem o_ld4 (x : Operand) : opA te fr σ (.load 4 x) = ld1 σ (ev fr x) := ld1_eq rfl rfl x
theorem o_ld5 (x : Operand) : opA te fr σ (.load 5 x) = ld1 σ (ev fr x) := ld1_eq rfl rfl x
theorem o_ld51 (x : Operand) : opA te fr σ (.load 51 x) = ldn 2 σ (ev fr x) := ldn_eq (i := t51) rfl rfl rfl x
theorem o_ld73 (x : Operand) : opA te fr σ (.load 73 x) = ld1 σ (ev fr x) := ld1_eq rfl rfl x
theorem o_ld9 (x : Operand) : opA te fr σ (.load 9 x) = ld1 σ (ev fr x) := ld1_eq rfl rfl x
theorem o_ld96 (x : Operand) : opA te fr σ (.load 96 x) = ld1 σ (ev fr x) := ld1_eq rfl rfl x
theorem o_ln22 (x : Operand) : opA te fr σ (.call ⟨.builtin .len, #[x], #[22]⟩) = lnA (ev fr x) := ln_eq rfl rfl x
theorem o_ln34 (x : Operand) : opA te fr σ (.call ⟨.builtin .len, #[x], #[34]⟩) = lnA (ev fr x) := ln_eq rfl rfl x
theorem o_ln41 (x : Operand) : opA te fr σ (.call ⟨.builtin .len, #[x], #[41]⟩) = lnA (ev fr x) := ln_eq rfl rfl x
theorem o_ln9 (x : Operand) : opA te fr σ (.call ⟨.builtin .len, #[x], #[9]⟩) = lnS (ev fr x) := lns_eq rfl rfl x
theorem o_mk22 (x y : Operand) : opA te fr σ (.makeSlice 22 x y) = mkB 3 8 1 σ.length [.v (.int .i64 0)] (ev fr x) (ev fr y) := mk_eq (i := t22) (j := t3) (el := 3) (bytes := 8) (sz := 1) rfl rfl rfl rfl rfl rfl rfl rfl x y
theorem o_mk34 (x y : Operand) : opA te fr σ (.makeSlice 34 x y) = mkB 5 1 1 σ.length [.v (.int .u8 0)] (ev fr x) (ev fr y) := mk_eq (i := t34) (j := t5) (el := 5) (bytes := 1) (sz := 1) rfl rfl rfl rfl rfl rfl rfl rfl x y
theorem o_mk41 (x y : Operand) : opA te fr σ (.makeSlice 41 x y) = mkB 9 16 1 σ.length [.v (.string ⟨#[]⟩)] (ev fr x) (ev fr y) := mk_eq (i := t41) (j := t9) (el := 9) (bytes := 16) (sz := 1) rfl rfl rfl rfl rfl rfl rfl rfl x y
theorem o_sl22 (x : Operand) (lo hi : Option Operand) : opA te fr σ (.slice 22 x lo hi none) = slcA 1 (ev fr x) (evo fr lo) (evo fr hi) := sl_eq (i := t22) (j := t3) rfl rfl rfl rfl x lo hi
theorem o_sl34 (x : Operand) (lo hi : Option Operand) : opA te fr σ (.slice 34 x lo hi none) = slcA 1 (ev fr x) (evo fr lo) (evo fr hi) := sl_eq (i := t34) (j := t5) rfl rfl rfl rfl x lo hi
theorem o_sl41 (x : Operand) (lo hi : Option Operand) : opA te fr σ (.slice 41 x lo hi none) = slcA 1 (ev fr x) (evo fr lo) (evo fr hi) := sl_eq (i := t41) (j := t9) rfl rfl rfl rfl x lo hi
theorem o_sl9 (x : Operand) (lo hi : Option Operand) : opA te fr σ (.slice 9 x lo hi none) = slsA (ev fr x) (evo fr lo) (evo fr hi) := sls_eq rfl rfl x lo hi
theorem o_st134 (x y : Operand) : opA te fr σ (.store 134 x y) = stS 2 σ (ev fr x) (ev fr y) := st_eq (i := t134) rfl rfl x y
theorem o_st22 (x y : Operand) : opA te fr σ (.store 22 x y) = stS 1 σ (ev fr x) (ev fr y) := st_eq (i := t22) rfl rfl x y
theorem o_st29 (x y : Operand) : opA te fr σ (.store 29 x y) = stS 2 σ (ev fr x) (ev fr y) := st_eq (i := t29) rfl rfl x y
theorem o_st3 (x y : Operand) : opA te fr σ (.store 3 x y) = stS 1 σ (ev fr x) (ev fr y) := st_eq (i := t3) rfl rfl x y
theorem o_st34 (x y : Operand) : opA te fr σ (.store 34 x y) = stS 1 σ (ev fr x) (ev fr y) := st_eq (i := t34) rfl rfl x y
theorem o_st4 (x y : Operand) : opA te fr σ (.store 4 x y) = stS 1 σ (ev fr x) (ev fr y) := st_eq (i := t4) rfl rfl x y
theorem o_st5 (x y : Operand) : opA te fr σ (.store 5 x y) = stS 1 σ (ev fr x) (ev fr y) := st_eq (i := t5) rfl rfl x y
theorem o_st73 (x y : Operand) : opA te fr σ (.store 73 x y) = stS 1 σ (ev fr x) (ev fr y) := st_eq (i := t73) rfl rfl x y
theorem o_st9 (x y : Operand) : opA te fr σ (.store 9 x y) = stS 1 σ (ev fr x) (ev fr y) := st_eq (i := t9) rfl rfl x y
theorem o_cn2 (k : IntKind) (n : Int) : convA t2 (.v (.int k n)) = .val (.v (.int .i64 (IntKind.wrap .i64 n))) := rfl
theorem o_cn3 (k : IntKind) (n : Int) : convA t3 (.v (.int k n)) = .val (.v (.int .i64 (IntKind.wrap .i64 n))) := rfl
theorem o_ib4 : isBool t4.desc = true := rfl
theorem o_cn5 (k : IntKind) (n : Int) : convA t5 (.v (.int k n)) = .val (.v (.int .u8 (IntKind.wrap .u8 n))) := rfl
theorem o_cn21 (k : IntKind) (n : Int) : convA t21 (.v (.int k n)) = .val (.v (.int .i32 (IntKind.wrap .i32 n))) := rfl
theorem o_zb22 {c : Fr → Sto → Prop} {op : Op} (d nm : Nat) : zB te d nm fr σ c op (some 22) = c (put d (.sl nm 0 0 1) fr) σ := rfl
theorem o_zb34 {c : Fr → Sto → Prop} {op : Op} (d nm : Nat) : zB te d nm fr σ c op (some 34) = c (put d (.sl nm 0 0 1) fr) σ := rfl
theorem o_zb41 {c : Fr → Sto → Prop} {op : Op} (d nm : Nat) : zB te d nm fr σ c op (some 41) = c (put d (.sl nm 0 0 1) fr) σ := rfl
theorem o_ip73 : isPtr t73.desc = true := rfl
theorem o_cn79 (k : IntKind) (n : Int) : convA t79 (.v (.int k n)) = .val (.v (.int .u64 (IntKind.wrap .u64 n))) := rfl
theorem o_ip90 : isPtr t90.desc = true := rfl
theorem o_cn96 (k : IntKind) (n : Int) : convA t96 (.v (.int k n)) = .val (.v (.int .u64 (IntKind.wrap .u64 n))) := rfl
theorem o_cn121 (k : IntKind) (n : Int) : convA t121 (.v (.int k n)) = .val (.v (.int .u32 (IntKind.wrap .u32 n))) := rfl
end

-- NAMES o_al134 o_al29 o_al75 o_ap22 o_ap34 o_ap41 o_bi121 o_bi2 o_bi21 o_bi3 o_bi4 o_bi5 o_bi73 o_bi79 o_bi9 o_bi96 o_bs22_0 o_bs22_1 o_bs34_1 o_bs41_0 o_bs41_1 o_bs41_5 o_bu120 o_bu134 o_bu29 o_bu78 o_cn121 o_cn2 o_cn21 o_cn3 o_cn5 o_cn79 o_cn96 o_cv121_5 o_cv121_79 o_cv121_96 o_cv2_96 o_cv34_9 o_cv3_5 o_cv3_79 o_cv3_96 o_cv5_121 o_cv5_21 o_cv5_3 o_cv5_96 o_cv79_121 o_cv79_3 o_cv96_121 o_cv96_2 o_cv96_5 o_fa134_0 o_fa134_1 o_fa29_0 o_fa29_1 o_fa51_0 o_fa51_1 o_fa75_0 o_fa75_1 o_fa78_0 o_fa78_1 o_fa78_2 o_ia22 o_ia34 o_ia41 o_ib4 o_ip73 o_ip90 o_ix9 o_ld134 o_ld22 o_ld29 o_ld3 o_ld34 o_ld4 o_ld5 o_ld51 o_ld73 o_ld9 o_ld96 o_ln22 o_ln34 o_ln41 o_ln9 o_mk22 o_mk34 o_mk41 o_sl22 o_sl34 o_sl41 o_sl9 o_st134 o_st22 o_st29 o_st3 o_st34 o_st4 o_st5 o_st73 o_st9 o_zb22 o_zb34 o_zb41
theorem mixedOk : Tryd.prog.follows .mixedOrders = true := by kernel_rfl
end Go.Proofs.YtjnlpomfjlpikaaDoor.Ab
