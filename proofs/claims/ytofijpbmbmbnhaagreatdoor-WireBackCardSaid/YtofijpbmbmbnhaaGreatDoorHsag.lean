/- The tables of the program, written by a program of mine (ShowTab.lean); that they are the program's is proved here. -/
import Derived.Test.YtofijpbmbmbnhaaGreatDoorHsaf
import Derived.Test.YtofijpbmbmbnhaaGreatDoorProg
import Derived.KernelRfl
import Derived.WalkKit
import Derived.Lib.Builder
import Derived.Lib.Walk
import Derived.Laws.Externs
import Derived.Lib.ItoaNum
set_option linter.unusedSimpArgs false
set_option linter.unusedVariables false
set_option maxRecDepth 100000
namespace Go.Proofs.YtofijpbmbmbnhaaGreatDoor
open Go Go.Hs Go.Proofs
def ti0:TI:=⟨.other,1,0,some (.tuple #[]),true⟩
def ti1:TI:=⟨.func,1,8,some (.nilFunc),true⟩
def ti2:TI:=⟨.int .i64,1,8,some (.int .i64 0),true⟩
def ti4:TI:=⟨.bool,1,1,some (.bool false),true⟩
def ti5:TI:=⟨.int .u8,1,1,some (.int .u8 0),true⟩
def ti7:TI:=⟨.struct [(0,2,1),(1,3,1),(2,4,1),(3,6,1)],4,24,some (.agg #[.int .i64 0,.int .i64 0,.bool false,.int .u8 0]),true⟩
def ti9:TI:=⟨.string,1,16,some (.string ⟨#[]⟩),true⟩
def ADR:TI:=⟨.int .u64,1,8,some (.int .u64 0),true⟩
def AEx:TI:=⟨.struct [(0,9,1),(1,12,1)],2,24,some (.agg #[.string ⟨#[]⟩,.int .u64 0]),false⟩
def AFh:TI:=⟨.pointer 210,1,8,some (.pointer none),true⟩
def AFg:TI:=⟨.pointer 213,1,8,some (.pointer none),true⟩
def AFf:TI:=⟨.pointer 220,1,8,some (.pointer none),true⟩
def AEw:TI:=⟨.struct [(0,17,1)],1,8,some (.agg #[.pointer none]),false⟩
def AFe:TI:=⟨.other,1,16,some (.nilIface),true⟩
def AC5:TI:=⟨.int .i32,1,4,some (.int .i32 0),true⟩
def AFd:TI:=⟨.slice 24 4 56,1,24,some (.slice none 0 0),true⟩
def AEv:TI:=⟨.struct [(0,3,1),(1,3,1),(2,9,1),(3,22,1)],4,56,some (.agg #[.int .i64 0,.int .i64 0,.string ⟨#[]⟩,.slice none 0 0]),true⟩
def AFc:TI:=⟨.slice 3 1 8,1,24,some (.slice none 0 0),true⟩
def AFb:TI:=⟨.other,1,0,some (.tuple #[.agg #[.int .i64 0,.int .i64 0,.string ⟨#[]⟩,.slice none 0 0],.int .i64 0]),true⟩
def AFa:TI:=⟨.slice 25 1 24,1,24,some (.slice none 0 0),true⟩
def AC3:TI:=⟨.other,1,0,some (.tuple #[.slice none 0 0,.int .i64 0]),true⟩
def AFZ:TI:=⟨.slice 5 1 1,1,24,some (.slice none 0 0),true⟩
def AFY:TI:=⟨.pointer 95,1,8,some (.pointer none),true⟩
def AFX:TI:=⟨.other,1,0,some (.tuple #[.string ⟨#[]⟩,.int .i64 0]),true⟩
def AEu:TI:=⟨.array 32 5 1,32,32,some (.agg #[.int .u8 0,.int .u8 0,.int .u8 0,.int .u8 0,.int .u8 0,.int .u8 0,.int .u8 0,.int .u8 0,.int .u8 0,.int .u8 0,.int .u8 0,.int .u8 0,.int .u8 0,.int .u8 0,.int .u8 0,.int .u8 0,.int .u8 0,.int .u8 0,.int .u8 0,.int .u8 0,.int .u8 0,.int .u8 0,.int .u8 0,.int .u8 0,.int .u8 0,.int .u8 0,.int .u8 0,.int .u8 0,.int .u8 0,.int .u8 0,.int .u8 0,.int .u8 0]),true⟩
def AFW:TI:=⟨.other,1,0,some (.tuple #[.agg #[.int .u8 0,.int .u8 0,.int .u8 0,.int .u8 0,.int .u8 0,.int .u8 0,.int .u8 0,.int .u8 0,.int .u8 0,.int .u8 0,.int .u8 0,.int .u8 0,.int .u8 0,.int .u8 0,.int .u8 0,.int .u8 0,.int .u8 0,.int .u8 0,.int .u8 0,.int .u8 0,.int .u8 0,.int .u8 0,.int .u8 0,.int .u8 0,.int .u8 0,.int .u8 0,.int .u8 0,.int .u8 0,.int .u8 0,.int .u8 0,.int .u8 0,.int .u8 0],.int .i64 0]),true⟩
def AFV:TI:=⟨.other,1,0,some (.tuple #[.int .i64 0,.int .i64 0]),true⟩
def AFU:TI:=⟨.other,1,0,some (.tuple #[.agg #[.int .i64 0,.int .i64 0,.string ⟨#[]⟩,.slice none 0 0],.int .i64 0,.int .i64 0]),true⟩
def AFT:TI:=⟨.struct [(0,44,1),(1,3,1)],2,32,some (.agg #[.slice none 0 0,.int .i64 0]),true⟩
def AFS:TI:=⟨.slice 70 2 32,1,24,some (.slice none 0 0),true⟩
def AC2:TI:=⟨.struct [(0,9,1),(1,3,1),(2,30,1)],3,32,some (.agg #[.string ⟨#[]⟩,.int .i64 0,.int .i64 0]),true⟩
def AFR:TI:=⟨.slice 72 3 32,1,24,some (.slice none 0 0),true⟩
def AFQ:TI:=⟨.other,1,0,some (.tuple #[.slice none 0 0,.int .i64 0,.int .i64 0]),true⟩
def AFP:TI:=⟨.pointer 24,1,8,some (.pointer none),true⟩
def AFO:TI:=⟨.other,1,0,some (.tuple #[.slice none 0 0,.bool false]),true⟩
def AFN:TI:=⟨.pointer 3,1,8,some (.pointer none),true⟩
def AEt:TI:=⟨.struct [(0,44,1),(1,3,1),(2,93,1)],3,40,some (.agg #[.slice none 0 0,.int .i64 0,.int .u64 0]),true⟩
def AFM:TI:=⟨.pointer 100,1,8,some (.pointer none),true⟩
def AEs:TI:=⟨.struct [(0,98,1),(1,44,1)],2,32,some (.agg #[.pointer none,.slice none 0 0]),true⟩
def ADU:TI:=⟨.int .u32,1,4,some (.int .u32 0),true⟩
def ADT:TI:=⟨.array 8 104 1,8,32,some (.agg #[.int .u32 0,.int .u32 0,.int .u32 0,.int .u32 0,.int .u32 0,.int .u32 0,.int .u32 0,.int .u32 0]),true⟩
def AA6:TI:=⟨.struct [(0,105,8),(8,44,1),(9,3,1)],10,64,some (.agg #[.int .u32 0,.int .u32 0,.int .u32 0,.int .u32 0,.int .u32 0,.int .u32 0,.int .u32 0,.int .u32 0,.slice none 0 0,.int .i64 0]),true⟩
def AA5:TI:=⟨.struct [(0,107,10)],10,64,some (.agg #[.int .u32 0,.int .u32 0,.int .u32 0,.int .u32 0,.int .u32 0,.int .u32 0,.int .u32 0,.int .u32 0,.slice none 0 0,.int .i64 0]),true⟩
def AA4:TI:=⟨.struct [(0,114,3),(3,3,1)],4,40,some (.agg #[.string ⟨#[]⟩,.int .i64 0,.int .i64 0,.int .i64 0]),true⟩
def ADS:TI:=⟨.other,1,0,some (.tuple #[.agg #[.int .i64 0,.int .i64 0,.string ⟨#[]⟩,.slice none 0 0],.bool false]),true⟩
def AA3:TI:=⟨.struct [(0,3,1),(1,3,1),(2,3,1),(3,9,1)],4,40,some (.agg #[.int .i64 0,.int .i64 0,.int .i64 0,.string ⟨#[]⟩]),true⟩
def AA2:TI:=⟨.other,1,16,some (.nilIface),false⟩
def ADQ:TI:=⟨.other,1,0,some (.tuple #[.int .i64 0,.nilIface]),true⟩
def ADP:TI:=⟨.array 2 5 1,2,2,some (.agg #[.int .u8 0,.int .u8 0]),true⟩
def ADO:TI:=⟨.pointer 5,1,8,some (.pointer none),true⟩
def ADN:TI:=⟨.pointer 110,1,8,some (.pointer none),true⟩
def ADM:TI:=⟨.pointer 116,1,8,some (.pointer none),true⟩
def AA1:TI:=⟨.struct [(0,5,1),(1,156,1)],2,16,some (.agg #[.int .u8 0,.nilFunc]),true⟩
def ADL:TI:=⟨.array 3 158 2,6,48,some (.agg #[.int .u8 0,.nilFunc,.int .u8 0,.nilFunc,.int .u8 0,.nilFunc]),true⟩
def ADK:TI:=⟨.other,1,0,some (.tuple #[.int .i64 0,.bool false]),true⟩
def ADJ:TI:=⟨.other,1,0,some (.tuple #[.string ⟨#[]⟩,.bool false]),true⟩
def ADI:TI:=⟨.other,1,0,some (.tuple #[.agg #[.int .u32 0,.int .u32 0,.int .u32 0,.int .u32 0,.int .u32 0,.int .u32 0,.int .u32 0,.int .u32 0],.slice none 0 0]),true⟩
def ADH:TI:=⟨.slice 44 1 24,1,24,some (.slice none 0 0),true⟩
def AA0:TI:=⟨.struct [(0,176,1),(1,176,1)],2,16,some (.agg #[.nilFunc,.nilFunc]),true⟩
def ADG:TI:=⟨.array 64 104 1,64,256,some (.agg #[.int .u32 0,.int .u32 0,.int .u32 0,.int .u32 0,.int .u32 0,.int .u32 0,.int .u32 0,.int .u32 0,.int .u32 0,.int .u32 0,.int .u32 0,.int .u32 0,.int .u32 0,.int .u32 0,.int .u32 0,.int .u32 0,.int .u32 0,.int .u32 0,.int .u32 0,.int .u32 0,.int .u32 0,.int .u32 0,.int .u32 0,.int .u32 0,.int .u32 0,.int .u32 0,.int .u32 0,.int .u32 0,.int .u32 0,.int .u32 0,.int .u32 0,.int .u32 0,.int .u32 0,.int .u32 0,.int .u32 0,.int .u32 0,.int .u32 0,.int .u32 0,.int .u32 0,.int .u32 0,.int .u32 0,.int .u32 0,.int .u32 0,.int .u32 0,.int .u32 0,.int .u32 0,.int .u32 0,.int .u32 0,.int .u32 0,.int .u32 0,.int .u32 0,.int .u32 0,.int .u32 0,.int .u32 0,.int .u32 0,.int .u32 0,.int .u32 0,.int .u32 0,.int .u32 0,.int .u32 0,.int .u32 0,.int .u32 0,.int .u32 0,.int .u32 0]),true⟩
def ADF:TI:=⟨.slice 104 1 4,1,24,some (.slice none 0 0),true⟩
def ADE:TI:=⟨.pointer 114,1,8,some (.pointer none),true⟩
def ADD:TI:=⟨.map 5 5,1,8,some (.map none),true⟩
def ADC:TI:=⟨.other,1,0,some (.tuple #[.int .u8 0,.bool false]),true⟩
def ADB:TI:=⟨.other,1,8,some (.pointer none),true⟩
def AAz:TI:=⟨.struct [(0,3,1),(1,3,1),(2,3,1),(3,4,1)],4,32,some (.agg #[.int .i64 0,.int .i64 0,.int .i64 0,.bool false]),true⟩
def ADA:TI:=⟨.array 24 5 1,24,24,some (.agg #[.int .u8 0,.int .u8 0,.int .u8 0,.int .u8 0,.int .u8 0,.int .u8 0,.int .u8 0,.int .u8 0,.int .u8 0,.int .u8 0,.int .u8 0,.int .u8 0,.int .u8 0,.int .u8 0,.int .u8 0,.int .u8 0,.int .u8 0,.int .u8 0,.int .u8 0,.int .u8 0,.int .u8 0,.int .u8 0,.int .u8 0,.int .u8 0]),true⟩
def AC9:TI:=⟨.other,1,0,some (.tuple #[.slice none 0 0,.string ⟨#[]⟩]),true⟩
def AC8:TI:=⟨.array 20 93 1,20,160,some (.agg #[.int .u64 0,.int .u64 0,.int .u64 0,.int .u64 0,.int .u64 0,.int .u64 0,.int .u64 0,.int .u64 0,.int .u64 0,.int .u64 0,.int .u64 0,.int .u64 0,.int .u64 0,.int .u64 0,.int .u64 0,.int .u64 0,.int .u64 0,.int .u64 0,.int .u64 0,.int .u64 0]),true⟩
def AC7:TI:=⟨.array 65 5 1,65,65,some (.agg #[.int .u8 0,.int .u8 0,.int .u8 0,.int .u8 0,.int .u8 0,.int .u8 0,.int .u8 0,.int .u8 0,.int .u8 0,.int .u8 0,.int .u8 0,.int .u8 0,.int .u8 0,.int .u8 0,.int .u8 0,.int .u8 0,.int .u8 0,.int .u8 0,.int .u8 0,.int .u8 0,.int .u8 0,.int .u8 0,.int .u8 0,.int .u8 0,.int .u8 0,.int .u8 0,.int .u8 0,.int .u8 0,.int .u8 0,.int .u8 0,.int .u8 0,.int .u8 0,.int .u8 0,.int .u8 0,.int .u8 0,.int .u8 0,.int .u8 0,.int .u8 0,.int .u8 0,.int .u8 0,.int .u8 0,.int .u8 0,.int .u8 0,.int .u8 0,.int .u8 0,.int .u8 0,.int .u8 0,.int .u8 0,.int .u8 0,.int .u8 0,.int .u8 0,.int .u8 0,.int .u8 0,.int .u8 0,.int .u8 0,.int .u8 0,.int .u8 0,.int .u8 0,.int .u8 0,.int .u8 0,.int .u8 0,.int .u8 0,.int .u8 0,.int .u8 0,.int .u8 0]),true⟩
def AC6:TI:=⟨.array 64 5 1,64,64,some (.agg #[.int .u8 0,.int .u8 0,.int .u8 0,.int .u8 0,.int .u8 0,.int .u8 0,.int .u8 0,.int .u8 0,.int .u8 0,.int .u8 0,.int .u8 0,.int .u8 0,.int .u8 0,.int .u8 0,.int .u8 0,.int .u8 0,.int .u8 0,.int .u8 0,.int .u8 0,.int .u8 0,.int .u8 0,.int .u8 0,.int .u8 0,.int .u8 0,.int .u8 0,.int .u8 0,.int .u8 0,.int .u8 0,.int .u8 0,.int .u8 0,.int .u8 0,.int .u8 0,.int .u8 0,.int .u8 0,.int .u8 0,.int .u8 0,.int .u8 0,.int .u8 0,.int .u8 0,.int .u8 0,.int .u8 0,.int .u8 0,.int .u8 0,.int .u8 0,.int .u8 0,.int .u8 0,.int .u8 0,.int .u8 0,.int .u8 0,.int .u8 0,.int .u8 0,.int .u8 0,.int .u8 0,.int .u8 0,.int .u8 0,.int .u8 0,.int .u8 0,.int .u8 0,.int .u8 0,.int .u8 0,.int .u8 0,.int .u8 0,.int .u8 0,.int .u8 0]),true⟩
def AAy:TI:=⟨.struct [(0,17,1),(1,17,1),(2,17,1),(3,9,1)],4,40,some (.agg #[.pointer none,.pointer none,.pointer none,.string ⟨#[]⟩]),false⟩
def AC4:TI:=⟨.array 0 16 1,0,0,some (.agg #[]),true⟩
def AAx:TI:=⟨.other,0,0,some (.agg #[]),false⟩
def AAw:TI:=⟨.struct [(0,12,1),(1,12,1),(2,104,1),(3,214,1),(4,5,1),(5,5,1),(6,215,1),(7,216,1),(8,148,1),(9,217,1),(10,218,1)],11,48,some (.agg #[.int .u64 0,.int .u64 0,.int .u32 0,.int .u8 0,.int .u8 0,.int .u8 0,.int .u8 0,.nilFunc,.pointer none,.int .i32 0,.int .i32 0]),false⟩
def tyT:T TI:=(.node (.node (.node (.node (.node (.node (.node (.node .nil (some ti1) .nil) (some ti1) (.node .nil (some ti1) .nil)) (some AFb) (.node (.node .nil (some ADL) .nil) (some AEt) .nil)) (some AFh) (.node (.node (.node .nil (some ti1) .nil) (some ti1) (.node .nil (some ti1) .nil)) (some ti1) (.node (.node .nil (some ti1) .nil) (some ti1) .nil))) (some ti7) (.node (.node (.node (.node .nil (some ti1) .nil) (some AFS) (.node .nil (some ti1) .nil)) (some ti1) (.node (.node .nil (some ADI) .nil) (some ti1) .nil)) (some AEv) (.node (.node (.node .nil (some ti1) .nil) (some ti1) (.node .nil (some ti5) .nil)) (some ti1) (.node (.node .nil (some ADF) .nil) (some ti1) .nil)))) (some ti2) (.node (.node (.node (.node (.node .nil (some AA3) .nil) (some ti1) (.node .nil (some ti1) .nil)) (some AC3) (.node (.node .nil (some ADJ) .nil) (some AEs) .nil)) (some AEw) (.node (.node (.node .nil (some ti1) .nil) (some ti1) (.node .nil (some AC4) .nil)) (some ti1) (.node (.node .nil (some ti1) .nil) (some AA4) .nil))) (some ti9) (.node (.node (.node (.node .nil (some AA2) .nil) (some ti1) (.node .nil (some ti1) .nil)) (some ti1) (.node (.node .nil (some ti1) .nil) (some AA6) .nil)) (some ti1) (.node (.node (.node .nil (some ti1) .nil) (some AFN) (.node .nil (some AAw) .nil)) (some AFU) (.node (.node .nil (some ti1) .nil) (some ti1) .nil))))) (some ti1) (.node (.node (.node (.node (.node (.node .nil (some ti1) .nil) (some ti1) (.node .nil (some AAz) .nil)) (some ti1) (.node (.node .nil (some ADK) .nil) (some ti1) .nil)) (some AFf) (.node (.node (.node .nil (some ADP) .nil) (some ti1) (.node .nil (some AAy) .nil)) (some ti1) (.node (.node .nil (some AA0) .nil) (some AC2) .nil))) (some ti9) (.node (.node (.node (.node .nil (some ti1) .nil) (some AFR) (.node .nil (some AC9) .nil)) (some ti1) (.node (.node .nil (some ti1) .nil) (some ADT) .nil)) (some AFc) (.node (.node (.node .nil (some ti1) .nil) (some ti1) (.node .nil (some AC5) .nil)) (some ti1) (.node (.node .nil (some ti1) .nil) (some ti1) .nil)))) (some ti5) (.node (.node (.node (.node (.node .nil (some ti1) .nil) (some ti1) (.node .nil (some ti1) .nil)) (some AC3) (.node (.node .nil (some ti1) .nil) (some ti1) .nil)) (some AC5) (.node (.node (.node .nil (some ADN) .nil) (some AFO) (.node .nil (some AAx) .nil)) (some AEu) (.node (.node .nil (some ti1) .nil) (some ti1) .nil))) (some AEx) (.node (.node (.node (.node .nil (some ti1) .nil) (some ti1) (.node .nil (some AC7) .nil)) (some ti1) (.node (.node .nil (some ADH) .nil) (some AA5) .nil)) (some ti1) (.node (.node (.node .nil (some AA1) .nil) (some ADR) .nil) (some ti1) (.node (.node .nil (some ti1) .nil) (some ti1) .nil)))))) (some ti0) (.node (.node (.node (.node (.node (.node (.node .nil (some ti1) .nil) (some ti1) (.node .nil (some ti1) .nil)) (some ti1) (.node (.node .nil (some ti1) .nil) (some ti1) .nil)) (some AFg) (.node (.node (.node .nil (some ti1) .nil) (some ti1) (.node .nil (some AC6) .nil)) (some AC3) (.node (.node .nil (some ti1) .nil) (some ti1) .nil))) (some ti7) (.node (.node (.node (.node .nil (some ti1) .nil) (some AC2) (.node .nil (some ti1) .nil)) (some ti1) (.node (.node .nil (some ti1) .nil) (some ADU) .nil)) (some AEv) (.node (.node (.node .nil (some ti1) .nil) (some ti1) (.node .nil (some ti1) .nil)) (some AFV) (.node (.node .nil (some ADE) .nil) (some ti1) .nil)))) (some ti4) (.node (.node (.node (.node (.node .nil (some AA3) .nil) (some ti1) (.node .nil (some ti1) .nil)) (some ti1) (.node (.node .nil (some ti1) .nil) (some AEs) .nil)) (some AFe) (.node (.node (.node .nil (some ADO) .nil) (some ti1) (.node .nil (some AAx) .nil)) (some AEu) (.node (.node .nil (some ADG) .nil) (some AA4) .nil))) (some ADR) (.node (.node (.node (.node .nil (some ADQ) .nil) (some ti1) (.node .nil (some AC8) .nil)) (some AFZ) (.node (.node .nil (some ti1) .nil) (some ti1) .nil)) (some ti1) (.node (.node (.node .nil (some ti1) .nil) (some ti1) (.node .nil (some AAw) .nil)) (some ti1) (.node (.node .nil (some ADC) .nil) (some ti1) .nil))))) (some ti2) (.node (.node (.node (.node (.node (.node .nil (some ti1) .nil) (some ti1) (.node .nil (some AAz) .nil)) (some AFa) (.node (.node .nil (some ti1) .nil) (some AFM) .nil)) (some AEw) (.node (.node (.node .nil (some ti1) .nil) (some ti1) (.node .nil (some AAy) .nil)) (some AFX) (.node (.node .nil (some AA0) .nil) (some AC2) .nil))) (some ti9) (.node (.node (.node (.node .nil (some AA2) .nil) (some AFQ) (.node .nil (some ti1) .nil)) (some ti1) (.node (.node .nil (some ti1) .nil) (some AA6) .nil)) (some ti1) (.node (.node (.node .nil (some ADM) .nil) (some ti1) (.node .nil (some AC5) .nil)) (some ti1) (.node (.node .nil (some ADD) .nil) (some ti1) .nil)))) (some ti5) (.node (.node (.node (.node (.node .nil (some ti1) .nil) (some AFT) (.node .nil (some ADA) .nil)) (some ti1) (.node (.node .nil (some ti1) .nil) (some ti1) .nil)) (some AFd) (.node (.node (.node .nil (some ti1) .nil) (some ti1) (.node .nil (some ti5) .nil)) (some AFW) (.node (.node .nil (some ti1) .nil) (some ADS) .nil))) (some AEx) (.node (.node (.node (.node .nil (some ti1) .nil) (some AFP) (.node .nil (some ti1) .nil)) (some AFY) (.node (.node .nil (some ADR) .nil) (some AA5) .nil)) (some ti2) (.node (.node (.node .nil (some AA1) .nil) (some AEt) .nil) (some ti1) (.node (.node .nil (some ADB) .nil) (some ti1) .nil)))))))
noncomputable def fnT:T Func:=(.node (.node (.node (.node (.node (.node (.node (.node .nil (some Tryz.f127) .nil) (some Tryz.f63) .nil) (some Tryz.f31) (.node .nil (some Tryz.f95) .nil)) (some Tryz.f15) (.node (.node (.node .nil (some Tryz.f143) .nil) (some Tryz.f79) .nil) (some Tryz.f47) (.node .nil (some Tryz.f111) .nil))) (some Tryz.f7) (.node (.node (.node (.node .nil (some Tryz.f135) .nil) (some Tryz.f71) .nil) (some Tryz.f39) (.node .nil (some Tryz.f103) .nil)) (some Tryz.f23) (.node (.node (.node .nil (some Tryz.f151) .nil) (some Tryz.f87) .nil) (some Tryz.f55) (.node .nil (some Tryz.f119) .nil)))) (some Tryz.f3) (.node (.node (.node (.node (.node .nil (some Tryz.f131) .nil) (some Tryz.f67) .nil) (some Tryz.f35) (.node .nil (some Tryz.f99) .nil)) (some Tryz.f19) (.node (.node (.node .nil (some Tryz.f147) .nil) (some Tryz.f83) .nil) (some Tryz.f51) (.node .nil (some Tryz.f115) .nil))) (some Tryz.f11) (.node (.node (.node (.node .nil (some Tryz.f139) .nil) (some Tryz.f75) .nil) (some Tryz.f43) (.node .nil (some Tryz.f107) .nil)) (some Tryz.f27) (.node (.node .nil (some Tryz.f91) .nil) (some Tryz.f59) (.node .nil (some Tryz.f123) .nil))))) none (.node (.node (.node (.node (.node (.node .nil (some Tryz.f129) .nil) (some Tryz.f65) .nil) (some Tryz.f33) (.node .nil (some Tryz.f97) .nil)) (some Tryz.f17) (.node (.node (.node .nil (some Tryz.f145) .nil) (some Tryz.f81) .nil) (some Tryz.f49) (.node .nil (some Tryz.f113) .nil))) (some Tryz.f9) (.node (.node (.node (.node .nil (some Tryz.f137) .nil) (some Tryz.f73) .nil) (some Tryz.f41) (.node .nil (some Tryz.f105) .nil)) (some Tryz.f25) (.node (.node (.node .nil (some Tryz.f153) .nil) (some Tryz.f89) .nil) (some Tryz.f57) (.node .nil (some Tryz.f121) .nil)))) (some Tryz.f5) (.node (.node (.node (.node (.node .nil (some Tryz.f133) .nil) (some Tryz.f69) .nil) (some Tryz.f37) (.node .nil (some Tryz.f101) .nil)) (some Tryz.f21) (.node (.node (.node .nil (some Tryz.f149) .nil) (some Tryz.f85) .nil) (some Tryz.f53) (.node .nil (some Tryz.f117) .nil))) (some Tryz.f13) (.node (.node (.node (.node .nil (some Tryz.f141) .nil) (some Tryz.f77) .nil) (some Tryz.f45) (.node .nil (some Tryz.f109) .nil)) (some Tryz.f29) (.node (.node .nil (some Tryz.f93) .nil) (some Tryz.f61) (.node .nil (some Tryz.f125) .nil)))))) none (.node (.node (.node (.node (.node (.node (.node .nil (some Tryz.f128) .nil) (some Tryz.f64) .nil) (some Tryz.f32) (.node .nil (some Tryz.f96) .nil)) (some Tryz.f16) (.node (.node (.node .nil (some Tryz.f144) .nil) (some Tryz.f80) .nil) (some Tryz.f48) (.node .nil (some Tryz.f112) .nil))) (some Tryz.f8) (.node (.node (.node (.node .nil (some Tryz.f136) .nil) (some Tryz.f72) .nil) (some Tryz.f40) (.node .nil (some Tryz.f104) .nil)) (some Tryz.f24) (.node (.node (.node .nil (some Tryz.f152) .nil) (some Tryz.f88) .nil) (some Tryz.f56) (.node .nil (some Tryz.f120) .nil)))) (some Tryz.f4) (.node (.node (.node (.node (.node .nil (some Tryz.f132) .nil) (some Tryz.f68) .nil) (some Tryz.f36) (.node .nil (some Tryz.f100) .nil)) (some Tryz.f20) (.node (.node (.node .nil (some Tryz.f148) .nil) (some Tryz.f84) .nil) (some Tryz.f52) (.node .nil (some Tryz.f116) .nil))) (some Tryz.f12) (.node (.node (.node (.node .nil (some Tryz.f140) .nil) (some Tryz.f76) .nil) (some Tryz.f44) (.node .nil (some Tryz.f108) .nil)) (some Tryz.f28) (.node (.node .nil (some Tryz.f92) .nil) (some Tryz.f60) (.node .nil (some Tryz.f124) .nil))))) none (.node (.node (.node (.node (.node (.node .nil (some Tryz.f130) .nil) (some Tryz.f66) .nil) (some Tryz.f34) (.node .nil (some Tryz.f98) .nil)) (some Tryz.f18) (.node (.node (.node .nil (some Tryz.f146) .nil) (some Tryz.f82) .nil) (some Tryz.f50) (.node .nil (some Tryz.f114) .nil))) (some Tryz.f10) (.node (.node (.node (.node .nil (some Tryz.f138) .nil) (some Tryz.f74) .nil) (some Tryz.f42) (.node .nil (some Tryz.f106) .nil)) (some Tryz.f26) (.node (.node .nil (some Tryz.f90) .nil) (some Tryz.f58) (.node .nil (some Tryz.f122) .nil)))) (some Tryz.f6) (.node (.node (.node (.node (.node .nil (some Tryz.f134) .nil) (some Tryz.f70) .nil) (some Tryz.f38) (.node .nil (some Tryz.f102) .nil)) (some Tryz.f22) (.node (.node (.node .nil (some Tryz.f150) .nil) (some Tryz.f86) .nil) (some Tryz.f54) (.node .nil (some Tryz.f118) .nil))) (some Tryz.f14) (.node (.node (.node (.node .nil (some Tryz.f142) .nil) (some Tryz.f78) .nil) (some Tryz.f46) (.node .nil (some Tryz.f110) .nil)) (some Tryz.f30) (.node (.node .nil (some Tryz.f94) .nil) (some Tryz.f62) (.node .nil (some Tryz.f126) .nil)))))))
noncomputable def tab:Tab:=⟨tyT,fnT⟩
theorem EG:tab.Of Tryz.prog:=Tab.eo (by kernel_rfl) (by kernel_rfl)
set_option maxHeartbeats 1000000
theorem Yg:∃ j,Tryz.prog.info? 100=some j/\j.size=2:=
 I2.1 (show (Tryz.prog.info? 100).map (·.size)=some 2 by kernel_rfl)
theorem AAJ (b:Nat) (w:World) (h0:w.cell? ⟨b,0,none⟩=some (.pointer (some ⟨b,0,none⟩))) :
  Calls Tryz.prog 118 #[.pointer (some ⟨b,0,none⟩)] w fun e w'=>e=.returned (.tuple #[])/\w'=w:=by
 obtain⟨j,hj,_⟩:=Yg;have t104:Tryz.prog.underlying 98=some (.pointer 100):=by kernel_rfl
 go_enter Tryz.func118,Tryz.ntmps118
 go_wp2
 rw[Lib.run_neq_ptr_same w _ t104 hj]
 go_wp2
 go_end0
 exact⟨rfl,rfl⟩
theorem Ww (b:Nat) (w:World) (h0:w.cell? ⟨b,0,none⟩=some (.pointer none)) (hsh:w.shape? b=some (100,2)) (hfz:w.frozen? ⟨b,0,none⟩=false) :
  Calls Tryz.prog 118 #[.pointer (some ⟨b,0,none⟩)] w fun e w'=>e=.returned (.tuple #[])/\w'=w.setCell ⟨b,0,none⟩ (.pointer (some ⟨b,0,none⟩)):=by
 obtain⟨j,hj,hjs⟩:=Yg;have t104:Tryz.prog.underlying 98=some (.pointer 100):=by kernel_rfl
 have t177:Tryz.prog.underlying 190=some .unsafePointer:=by kernel_rfl
 go_enter Tryz.func118,Tryz.ntmps118
 go_wp2
 rw[Lib.run_to_unsafe w ⟨b,0,none⟩ t104 t177 hj (by rw[hjs];decide) hsh (Nat.zero_lt_succ 1)];simp only[Result.andThen];rw[Oper.upon_value]
 go_wp2
 rw[run_callFunc_extern Tryz.func134 (by kernel_rfl) (by kernel_rfl) (by kernel_rfl) (e:=Extern.AbiNoEscape.same) (by kernel_rfl)];rw[Lib.run_noEscape];simp only[Result.andThen];rw[Oper.upon_value]
 go_wp2
 rw[Lib.run_from_unsafe w ⟨b,0,none⟩ t177 t104 hj hsh (by kernel_rfl)];simp only[Result.andThen];rw[Oper.upon_value]
 go_wp2
 go_end0
 exact⟨rfl,rfl⟩
theorem cc:NS Tryz.prog 118 100:=⟨⟨_,Tryz.func118,by kernel_rfl⟩,AAJ,Ww⟩
theorem HG:Je Tryz.prog:=by
 intro f fn hf;have h1:Tryz.prog.funcs.all (fun fn => !(fn.name == "runtime.NumGoroutine"))=true:=by kernel_rfl
 rw[Array.all_eq_true_iff_forall_mem] at h1;simpa using h1 fn (Array.mem_of_getElem? hf)
noncomputable def E0:Env:=fun b o=>match Nat.beq b 3&&Nat.beq o 2 with
 | true=>some (.int .u64 100)
 | false=>none
noncomputable def I0:Aa:=fun f args h=>match Nat.beq f 118 with
 | true=>some (Dx 100 args h)
 | false=>match Nat.beq f 133 with
  | true=>some (AAX args h)
  | false=>none
theorem Yc (E:Env) (n0:Nat):Aw Tryz.prog tab E n0 I0:=by
 have key:∀ {f args h r h'},I0 f args h=some (some (r,h'))->(f=118/\Dx 100 args h=some (r,h'))\/(f=133/\AAX args h=some (r,h')):=by
  intro f args h r h' hi;unfold I0 at hi;split at hi
  ·next e=>exact .inl ⟨U0 e,Option.some.inj hi⟩
  ·split at hi
   ·next e=>exact .inr ⟨U0 e,Option.some.inj hi⟩
   ·cases hi
 refine⟨?_,?_,?_⟩
 ·intro f args h r h' hi φ w R hok;rcases key hi with⟨rfl,hk⟩|⟨rfl,hk⟩
  ·exact Qk HG cc (by decide) hk R hok
  ·exact WY Tryz.func133 (by kernel_rfl) (by kernel_rfl) (by kernel_rfl) (by kernel_rfl) hk R
 ·intro f args h r h' hi o;rcases key hi with⟨rfl,hk⟩|⟨rfl,hk⟩
  ·exact Tm hk o
  ·rw[MU hk];exact Lg.refl o
 ·intro f args h r h' hi;rcases key hi with⟨rfl,hk⟩|⟨rfl,hk⟩
  ·unfold Dx at hk
   repeat' split at hk
   all_goals first
    | (cases hk;done)
    | (cases hk;exact C0 _)
    | (obtain⟨h1,hput,he⟩:=I2.1 hk;cases he;exact N4 (Bf hput).symm)
  ·rw[MU hk];exact C0 _
theorem Wz:((ev tab E0 I0 3000).call 7 [] H.empty).map (·.1)=some (.bool true):=by kernel_rfl
theorem Uh {E:Env} (hE:∀ b o v,E0 b o=some v->E b o=some v) {n0:Nat} {φ:Ph} {h:H} {w:World} (R:Tie tab E n0 All φ h w):Sim Tryz.prog tab E n0 (callFunc 7 (([]:List Value).map (ren φ)).toArray) φ h w (.bool true) h:=by
 obtain⟨⟨v,h0⟩,h1,h2⟩:=I2.1 Wz;simp only at h2;subst h2;exact Qw EG HG (fun n0=>Yc E0 n0) hE h1 rfl (by simp) R
variable {E:Env}
theorem ACd:tab.ty.get 3=some ⟨.int .i64,1,8,some (.int .i64 0),true⟩:=by kernel_rfl
theorem AEq (a:Addr) {h:H}:AI tab E 3 a h=h.cell E a:=by unfold AI;rw[ACd];rfl
theorem AEn:tab.ty.get 4=some ⟨.bool,1,1,some (.bool false),true⟩:=by kernel_rfl
theorem AEp (a:Addr) {h:H}:AI tab E 4 a h=h.cell E a:=by unfold AI;rw[AEn];rfl
theorem VJ:tab.ty.get 5=some ⟨.int .u8,1,1,some (.int .u8 0),true⟩:=by kernel_rfl
theorem ACc:Ak tab 5=some (.int .u8 0):=by unfold Ak;rw[VJ]
theorem AEo (a:Addr) {h:H}:AI tab E 5 a h=h.cell E a:=by unfold AI;rw[VJ];rfl
theorem GD:tab.ty.get 44=some ⟨.slice 5 1 1,1,24,some (.slice none 0 0),true⟩:=by kernel_rfl
theorem ACr:Ak tab 44=some (.slice none 0 0):=by unfold Ak;rw[GD]
theorem AAn (a:Addr) {h:H}:AI tab E 44 a h=h.cell E a:=by unfold AI;rw[GD];rfl
theorem Rv {h:H} (b:Option Addr) (n c:Nat):Cp tab 44 (.slice b n c) h=some (.int .i64 n):=by unfold Cp;rw[GD]
theorem ACv (a:Addr) (n c:Nat) (i:Int) (hi:AN i n=true):AL tab 44 (.slice (some a) n c) (.int .i64 i)=some (.pointer (some (aadd a (i.toNat*1)))):=by unfold AL;simp only[GD,hi]
theorem Lk:tab.ty.get 53=some ⟨.array 32 5 1,32,32,some (.agg #[.int .u8 0,.int .u8 0,.int .u8 0,.int .u8 0,.int .u8 0,.int .u8 0,.int .u8 0,.int .u8 0,.int .u8 0,.int .u8 0,.int .u8 0,.int .u8 0,.int .u8 0,.int .u8 0,.int .u8 0,.int .u8 0,.int .u8 0,.int .u8 0,.int .u8 0,.int .u8 0,.int .u8 0,.int .u8 0,.int .u8 0,.int .u8 0,.int .u8 0,.int .u8 0,.int .u8 0,.int .u8 0,.int .u8 0,.int .u8 0,.int .u8 0,.int .u8 0]),true⟩:=by kernel_rfl
theorem VI:Ak tab 53=some (.agg #[.int .u8 0,.int .u8 0,.int .u8 0,.int .u8 0,.int .u8 0,.int .u8 0,.int .u8 0,.int .u8 0,.int .u8 0,.int .u8 0,.int .u8 0,.int .u8 0,.int .u8 0,.int .u8 0,.int .u8 0,.int .u8 0,.int .u8 0,.int .u8 0,.int .u8 0,.int .u8 0,.int .u8 0,.int .u8 0,.int .u8 0,.int .u8 0,.int .u8 0,.int .u8 0,.int .u8 0,.int .u8 0,.int .u8 0,.int .u8 0,.int .u8 0,.int .u8 0]):=by unfold Ak;rw[Lk]
theorem QN (a:Addr) {h:H}:AI tab E 53 a h=match h.cells E a 32 with|some cs=>some (.agg ⟨cs⟩)|none=>none:=by unfold AI;rw[Lk];rfl
theorem ACu (a:Addr) (i:Int) (hi:AN i 32=true):AL tab 53 (.pointer (some a)) (.int .i64 i)=some (.pointer (some (aadd a (i.toNat*1)))):=by unfold AL;simp only[Lk,hi]
theorem Yv:tab.ty.get 93=some ⟨.int .u64,1,8,some (.int .u64 0),true⟩:=by kernel_rfl
theorem AAm (a:Addr) {h:H}:AI tab E 93 a h=h.cell E a:=by unfold AI;rw[Yv];rfl
theorem Jf:tab.ty.get 104=some ⟨.int .u32,1,4,some (.int .u32 0),true⟩:=by kernel_rfl
theorem Rt:Ak tab 104=some (.int .u32 0):=by unfold Ak;rw[Jf]
theorem Xu (a:Addr) {h:H}:AI tab E 104 a h=h.cell E a:=by unfold AI;rw[Jf];rfl
theorem IG:tab.ty.get 105=some ⟨.array 8 104 1,8,32,some (.agg #[.int .u32 0,.int .u32 0,.int .u32 0,.int .u32 0,.int .u32 0,.int .u32 0,.int .u32 0,.int .u32 0]),true⟩:=by kernel_rfl
theorem ztz105:Ak tab 105=some (.agg #[.int .u32 0,.int .u32 0,.int .u32 0,.int .u32 0,.int .u32 0,.int .u32 0,.int .u32 0,.int .u32 0]):=by unfold Ak;rw[IG]
theorem HU (a:Addr) {h:H}:AI tab E 105 a h=match h.cells E a 8 with|some cs=>some (.agg ⟨cs⟩)|none=>none:=by unfold AI;rw[IG];rfl
theorem Eo (a:Addr) (i:Int) (hi:AN i 8=true):AL tab 105 (.pointer (some a)) (.int .i64 i)=some (.pointer (some (aadd a (i.toNat*1)))):=by unfold AL;simp only[IG,hi]
theorem IF:tab.ty.get 107=some ⟨.struct [(0,105,8),(8,44,1),(9,3,1)],10,64,some (.agg #[.int .u32 0,.int .u32 0,.int .u32 0,.int .u32 0,.int .u32 0,.int .u32 0,.int .u32 0,.int .u32 0,.slice none 0 0,.int .i64 0]),true⟩:=by kernel_rfl
theorem AAe:Ak tab 107=some (.agg #[.int .u32 0,.int .u32 0,.int .u32 0,.int .u32 0,.int .u32 0,.int .u32 0,.int .u32 0,.int .u32 0,.slice none 0 0,.int .i64 0]):=by unfold Ak;rw[IF]
theorem R8 (a:Addr) {h:H}:AI tab E 107 a h=match h.cells E a 10 with|some cs=>some (.agg ⟨cs⟩)|none=>none:=by unfold AI;rw[IF];rfl
theorem O9 (a:Addr):AC tab 107 (.pointer (some a)) 0=some (.pointer (some (aadd a 0))):=by unfold AC;rw[IF];rfl
theorem O8 (a:Addr):AC tab 107 (.pointer (some a)) 1=some (.pointer (some (aadd a 8))):=by unfold AC;rw[IF];rfl
theorem O7 (a:Addr):AC tab 107 (.pointer (some a)) 2=some (.pointer (some (aadd a 9))):=by unfold AC;rw[IF];rfl
theorem Lm:tab.ty.get 110=some ⟨.struct [(0,107,10)],10,64,some (.agg #[.int .u32 0,.int .u32 0,.int .u32 0,.int .u32 0,.int .u32 0,.int .u32 0,.int .u32 0,.int .u32 0,.slice none 0 0,.int .i64 0]),true⟩:=by kernel_rfl
theorem AAd:Ak tab 110=some (.agg #[.int .u32 0,.int .u32 0,.int .u32 0,.int .u32 0,.int .u32 0,.int .u32 0,.int .u32 0,.int .u32 0,.slice none 0 0,.int .i64 0]):=by unfold Ak;rw[Lm]
theorem Xt (a:Addr) {h:H}:AI tab E 110 a h=match h.cells E a 10 with|some cs=>some (.agg ⟨cs⟩)|none=>none:=by unfold AI;rw[Lm];rfl
theorem Ow (a:Addr):AC tab 110 (.pointer (some a)) 0=some (.pointer (some (aadd a 0))):=by unfold AC;rw[Lm];rfl
theorem AAl:tab.ty.get 111=some ⟨.func,1,8,some (.nilFunc),true⟩:=by kernel_rfl
theorem Xs (a:Addr) {h:H}:AI tab E 111 a h=h.cell E a:=by unfold AI;rw[AAl];rfl
theorem AAk:tab.ty.get 149=some ⟨.pointer 110,1,8,some (.pointer none),true⟩:=by kernel_rfl
theorem Xr (a:Addr) {h:H}:AI tab E 149 a h=h.cell E a:=by unfold AI;rw[AAk];rfl
theorem AAj:tab.ty.get 150=some ⟨.func,1,8,some (.nilFunc),true⟩:=by kernel_rfl
theorem Xq (a:Addr) {h:H}:AI tab E 150 a h=h.cell E a:=by unfold AI;rw[AAj];rfl
theorem AAi:tab.ty.get 151=some ⟨.func,1,8,some (.nilFunc),true⟩:=by kernel_rfl
theorem Xp (a:Addr) {h:H}:AI tab E 151 a h=h.cell E a:=by unfold AI;rw[AAi];rfl
theorem Ru:tab.ty.get 173=some ⟨.slice 44 1 24,1,24,some (.slice none 0 0),true⟩:=by kernel_rfl
theorem Xn (a:Addr) {h:H}:AI tab E 173 a h=h.cell E a:=by unfold AI;rw[Ru];rfl
theorem Rw {h:H} (b:Option Addr) (n c:Nat):Cp tab 173 (.slice b n c) h=some (.int .i64 n):=by unfold Cp;rw[Ru]
theorem Xh:tab.ty.get 174=some ⟨.int .u64,1,8,some (.int .u64 0),true⟩:=by kernel_rfl
theorem Xm (a:Addr) {h:H}:AI tab E 174 a h=h.cell E a:=by unfold AI;rw[Xh];rfl
theorem AAh:tab.ty.get 175=some ⟨.func,1,8,some (.nilFunc),true⟩:=by kernel_rfl
theorem Xl (a:Addr) {h:H}:AI tab E 175 a h=h.cell E a:=by unfold AI;rw[AAh];rfl
theorem AAg:tab.ty.get 176=some ⟨.func,1,8,some (.nilFunc),true⟩:=by kernel_rfl
theorem Xk (a:Addr) {h:H}:AI tab E 176 a h=h.cell E a:=by unfold AI;rw[AAg];rfl
theorem IE:tab.ty.get 178=some ⟨.struct [(0,176,1),(1,176,1)],2,16,some (.agg #[.nilFunc,.nilFunc]),true⟩:=by kernel_rfl
theorem ztz178:Ak tab 178=some (.agg #[.nilFunc,.nilFunc]):=by unfold Ak;rw[IE]
theorem Rz (a:Addr) {h:H}:AI tab E 178 a h=match h.cells E a 2 with|some cs=>some (.agg ⟨cs⟩)|none=>none:=by unfold AI;rw[IE];rfl
theorem KL (a:Addr):AC tab 178 (.pointer (some a)) 0=some (.pointer (some (aadd a 0))):=by unfold AC;rw[IE];rfl
theorem KK (a:Addr):AC tab 178 (.pointer (some a)) 1=some (.pointer (some (aadd a 1))):=by unfold AC;rw[IE];rfl
theorem Ll:tab.ty.get 180=some ⟨.array 64 104 1,64,256,some (.agg #[.int .u32 0,.int .u32 0,.int .u32 0,.int .u32 0,.int .u32 0,.int .u32 0,.int .u32 0,.int .u32 0,.int .u32 0,.int .u32 0,.int .u32 0,.int .u32 0,.int .u32 0,.int .u32 0,.int .u32 0,.int .u32 0,.int .u32 0,.int .u32 0,.int .u32 0,.int .u32 0,.int .u32 0,.int .u32 0,.int .u32 0,.int .u32 0,.int .u32 0,.int .u32 0,.int .u32 0,.int .u32 0,.int .u32 0,.int .u32 0,.int .u32 0,.int .u32 0,.int .u32 0,.int .u32 0,.int .u32 0,.int .u32 0,.int .u32 0,.int .u32 0,.int .u32 0,.int .u32 0,.int .u32 0,.int .u32 0,.int .u32 0,.int .u32 0,.int .u32 0,.int .u32 0,.int .u32 0,.int .u32 0,.int .u32 0,.int .u32 0,.int .u32 0,.int .u32 0,.int .u32 0,.int .u32 0,.int .u32 0,.int .u32 0,.int .u32 0,.int .u32 0,.int .u32 0,.int .u32 0,.int .u32 0,.int .u32 0,.int .u32 0,.int .u32 0]),true⟩:=by kernel_rfl
theorem AAc:Ak tab 180=some (.agg #[.int .u32 0,.int .u32 0,.int .u32 0,.int .u32 0,.int .u32 0,.int .u32 0,.int .u32 0,.int .u32 0,.int .u32 0,.int .u32 0,.int .u32 0,.int .u32 0,.int .u32 0,.int .u32 0,.int .u32 0,.int .u32 0,.int .u32 0,.int .u32 0,.int .u32 0,.int .u32 0,.int .u32 0,.int .u32 0,.int .u32 0,.int .u32 0,.int .u32 0,.int .u32 0,.int .u32 0,.int .u32 0,.int .u32 0,.int .u32 0,.int .u32 0,.int .u32 0,.int .u32 0,.int .u32 0,.int .u32 0,.int .u32 0,.int .u32 0,.int .u32 0,.int .u32 0,.int .u32 0,.int .u32 0,.int .u32 0,.int .u32 0,.int .u32 0,.int .u32 0,.int .u32 0,.int .u32 0,.int .u32 0,.int .u32 0,.int .u32 0,.int .u32 0,.int .u32 0,.int .u32 0,.int .u32 0,.int .u32 0,.int .u32 0,.int .u32 0,.int .u32 0,.int .u32 0,.int .u32 0,.int .u32 0,.int .u32 0,.int .u32 0,.int .u32 0]):=by unfold Ak;rw[Ll]
theorem Ry (a:Addr) {h:H}:AI tab E 180 a h=match h.cells E a 64 with|some cs=>some (.agg ⟨cs⟩)|none=>none:=by unfold AI;rw[Ll];rfl
theorem SA (a:Addr) (i:Int) (hi:AN i 64=true):AL tab 180 (.pointer (some a)) (.int .i64 i)=some (.pointer (some (aadd a (i.toNat*1)))):=by unfold AL;simp only[Ll,hi]
theorem ID:tab.ty.get 183=some ⟨.slice 104 1 4,1,24,some (.slice none 0 0),true⟩:=by kernel_rfl
theorem Xj (a:Addr) {h:H}:AI tab E 183 a h=h.cell E a:=by unfold AI;rw[ID];rfl
theorem NY {h:H} (b:Option Addr) (n c:Nat):Cp tab 183 (.slice b n c) h=some (.int .i64 n):=by unfold Cp;rw[ID]
theorem AAp (a:Addr) (n c:Nat) (i:Int) (hi:AN i n=true):AL tab 183 (.slice (some a) n c) (.int .i64 i)=some (.pointer (some (aadd a (i.toNat*1)))):=by unfold AL;simp only[ID,hi]
theorem GE:tab.ty.get 194=some ⟨.struct [(0,3,1),(1,3,1),(2,3,1),(3,4,1)],4,32,some (.agg #[.int .i64 0,.int .i64 0,.int .i64 0,.bool false]),true⟩:=by kernel_rfl
theorem AAb:Ak tab 194=some (.agg #[.int .i64 0,.int .i64 0,.int .i64 0,.bool false]):=by unfold Ak;rw[GE]
theorem Rx (a:Addr) {h:H}:AI tab E 194 a h=match h.cells E a 4 with|some cs=>some (.agg ⟨cs⟩)|none=>none:=by unfold AI;rw[GE];rfl
theorem Ov (a:Addr):AC tab 194 (.pointer (some a)) 0=some (.pointer (some (aadd a 0))):=by unfold AC;rw[GE];rfl
theorem Oq (a:Addr):AC tab 194 (.pointer (some a)) 1=some (.pointer (some (aadd a 1))):=by unfold AC;rw[GE];rfl
theorem Oo (a:Addr):AC tab 194 (.pointer (some a)) 2=some (.pointer (some (aadd a 2))):=by unfold AC;rw[GE];rfl
theorem On (a:Addr):AC tab 194 (.pointer (some a)) 3=some (.pointer (some (aadd a 3))):=by unfold AC;rw[GE];rfl
theorem AAf:tab.ty.get 197=some ⟨.func,1,8,some (.nilFunc),true⟩:=by kernel_rfl
theorem Xi (a:Addr) {h:H}:AI tab E 197 a h=h.cell E a:=by unfold AI;rw[AAf];rfl
theorem Zx:(∀ (E:Env) (a:Addr) (h:H),AI tab E 3 a h=h.cell E a)/\(∀ (E:Env) (a:Addr) (h:H),AI tab E 4 a h=h.cell E a)/\(∀ (E:Env) (a:Addr) (h:H),AI tab E 5 a h=h.cell E a)/\(∀ (E:Env) (a:Addr) (h:H),AI tab E 44 a h=h.cell E a)/\(∀ (h:H) (b:Option Addr) (n c:Nat),Cp tab 44 (.slice b n c) h=some (.int .i64 n))/\(∀ (E:Env) (a:Addr) (h:H),AI tab E 53 a h=match h.cells E a 32 with|some cs=>some (.agg ⟨cs⟩)|none=>none)/\(∀ (E:Env) (a:Addr) (h:H),AI tab E 93 a h=h.cell E a)/\(∀ (E:Env) (a:Addr) (h:H),AI tab E 104 a h=h.cell E a)/\(∀ (E:Env) (a:Addr) (h:H),AI tab E 105 a h=match h.cells E a 8 with|some cs=>some (.agg ⟨cs⟩)|none=>none)/\(∀ (E:Env) (a:Addr) (h:H),AI tab E 107 a h=match h.cells E a 10 with|some cs=>some (.agg ⟨cs⟩)|none=>none)/\(∀ (a:Addr),AC tab 107 (.pointer (some a)) 0=some (.pointer (some (aadd a 0))))/\(∀ (a:Addr),AC tab 107 (.pointer (some a)) 1=some (.pointer (some (aadd a 8))))/\(∀ (a:Addr),AC tab 107 (.pointer (some a)) 2=some (.pointer (some (aadd a 9))))/\(∀ (E:Env) (a:Addr) (h:H),AI tab E 110 a h=match h.cells E a 10 with|some cs=>some (.agg ⟨cs⟩)|none=>none)/\(∀ (a:Addr),AC tab 110 (.pointer (some a)) 0=some (.pointer (some (aadd a 0))))/\(∀ (E:Env) (a:Addr) (h:H),AI tab E 111 a h=h.cell E a)/\(∀ (E:Env) (a:Addr) (h:H),AI tab E 149 a h=h.cell E a)/\(∀ (E:Env) (a:Addr) (h:H),AI tab E 150 a h=h.cell E a)/\(∀ (E:Env) (a:Addr) (h:H),AI tab E 151 a h=h.cell E a)/\(∀ (E:Env) (a:Addr) (h:H),AI tab E 173 a h=h.cell E a)/\(∀ (h:H) (b:Option Addr) (n c:Nat),Cp tab 173 (.slice b n c) h=some (.int .i64 n))/\(∀ (E:Env) (a:Addr) (h:H),AI tab E 174 a h=h.cell E a)/\(∀ (E:Env) (a:Addr) (h:H),AI tab E 175 a h=h.cell E a)/\(∀ (E:Env) (a:Addr) (h:H),AI tab E 176 a h=h.cell E a)/\(∀ (E:Env) (a:Addr) (h:H),AI tab E 178 a h=match h.cells E a 2 with|some cs=>some (.agg ⟨cs⟩)|none=>none)/\(∀ (a:Addr),AC tab 178 (.pointer (some a)) 0=some (.pointer (some (aadd a 0))))/\(∀ (a:Addr),AC tab 178 (.pointer (some a)) 1=some (.pointer (some (aadd a 1))))/\(∀ (E:Env) (a:Addr) (h:H),AI tab E 180 a h=match h.cells E a 64 with|some cs=>some (.agg ⟨cs⟩)|none=>none)/\(∀ (E:Env) (a:Addr) (h:H),AI tab E 183 a h=h.cell E a)/\(∀ (h:H) (b:Option Addr) (n c:Nat),Cp tab 183 (.slice b n c) h=some (.int .i64 n))/\(∀ (E:Env) (a:Addr) (h:H),AI tab E 194 a h=match h.cells E a 4 with|some cs=>some (.agg ⟨cs⟩)|none=>none)/\(∀ (a:Addr),AC tab 194 (.pointer (some a)) 0=some (.pointer (some (aadd a 0))))/\(∀ (a:Addr),AC tab 194 (.pointer (some a)) 1=some (.pointer (some (aadd a 1))))/\(∀ (a:Addr),AC tab 194 (.pointer (some a)) 2=some (.pointer (some (aadd a 2))))/\(∀ (a:Addr),AC tab 194 (.pointer (some a)) 3=some (.pointer (some (aadd a 3))))/\(∀ (E:Env) (a:Addr) (h:H),AI tab E 197 a h=h.cell E a):=
 ⟨fun E a h=>by first|exact AEq _|exact AEq _ _ _,fun E a h=>by first|exact AEp _|exact AEp _ _ _,fun E a h=>by first|exact AEo _|exact AEo _ _ _,fun E a h=>by first|exact AAn _|exact AAn _ _ _,fun h b n c=>by first|exact Rv _|exact Rv _ _ _,fun E a h=>by first|exact QN _|exact QN _ _ _,fun E a h=>by first|exact AAm _|exact AAm _ _ _,fun E a h=>by first|exact Xu _|exact Xu _ _ _,fun E a h=>by first|exact HU _|exact HU _ _ _,fun E a h=>by first|exact R8 _|exact R8 _ _ _,fun a=>by first|exact O9 _|exact O9 _ _ _,fun a=>by first|exact O8 _|exact O8 _ _ _,fun a=>by first|exact O7 _|exact O7 _ _ _,fun E a h=>by first|exact Xt _|exact Xt _ _ _,fun a=>by first|exact Ow _|exact Ow _ _ _,fun E a h=>by first|exact Xs _|exact Xs _ _ _,fun E a h=>by first|exact Xr _|exact Xr _ _ _,fun E a h=>by first|exact Xq _|exact Xq _ _ _,fun E a h=>by first|exact Xp _|exact Xp _ _ _,fun E a h=>by first|exact Xn _|exact Xn _ _ _,fun h b n c=>by first|exact Rw _|exact Rw _ _ _,fun E a h=>by first|exact Xm _|exact Xm _ _ _,fun E a h=>by first|exact Xl _|exact Xl _ _ _,fun E a h=>by first|exact Xk _|exact Xk _ _ _,fun E a h=>by first|exact Rz _|exact Rz _ _ _,fun a=>by first|exact KL _|exact KL _ _ _,fun a=>by first|exact KK _|exact KK _ _ _,fun E a h=>by first|exact Ry _|exact Ry _ _ _,fun E a h=>by first|exact Xj _|exact Xj _ _ _,fun h b n c=>by first|exact NY _|exact NY _ _ _,fun E a h=>by first|exact Rx _|exact Rx _ _ _,fun a=>by first|exact Ov _|exact Ov _ _ _,fun a=>by first|exact Oq _|exact Oq _ _ _,fun a=>by first|exact Oo _|exact Oo _ _ _,fun a=>by first|exact On _|exact On _ _ _,fun E a h=>by first|exact Xi _|exact Xi _ _ _⟩
theorem Rm:tab.ty.get 3=some ⟨.int .i64,1,8,some (.int .i64 0),true⟩:=by kernel_rfl
theorem AE7 (a:Addr) {h:H}:AI tab E 3 a h=h.cell E a:=by unfold AI;rw[Rm];rfl
theorem AFn:tab.ty.get 4=some ⟨.bool,1,1,some (.bool false),true⟩:=by kernel_rfl
theorem AE6 (a:Addr) {h:H}:AI tab E 4 a h=h.cell E a:=by unfold AI;rw[AFn];rfl
theorem qty5:tab.ty.get 5=some ⟨.int .u8,1,1,some (.int .u8 0),true⟩:=by kernel_rfl
theorem Rl:Ak tab 5=some (.int .u8 0):=by unfold Ak;rw[qty5]
theorem AE5 (a:Addr) {h:H}:AI tab E 5 a h=h.cell E a:=by unfold AI;rw[qty5];rfl
theorem qty9:tab.ty.get 9=some ⟨.string,1,16,some (.string ⟨#[]⟩),true⟩:=by kernel_rfl
theorem AE4 (a:Addr) {h:H}:AI tab E 9 a h=h.cell E a:=by unfold AI;rw[qty9];rfl
theorem ZU {h:H} (s:ByteArray):Cp tab 9 (.string s) h=some (.int .i64 (s.data.toList.length:Nat)):=by unfold Cp;rw[qty9]
theorem Kf:tab.ty.get 22=some ⟨.slice 24 4 56,1,24,some (.slice none 0 0),true⟩:=by kernel_rfl
theorem ABZ (a:Addr) {h:H}:AI tab E 22 a h=h.cell E a:=by unfold AI;rw[Kf];rfl
theorem So {h:H} (b:Option Addr) (n c:Nat):Cp tab 22 (.slice b n c) h=some (.int .i64 n):=by unfold Cp;rw[Kf]
theorem ZV (a:Addr) (n c:Nat) (i:Int) (hi:AN i n=true):AL tab 22 (.slice (some a) n c) (.int .i64 i)=some (.pointer (some (aadd a (i.toNat*4)))):=by unfold AL;simp only[Kf,hi]
theorem DW:tab.ty.get 24=some ⟨.struct [(0,3,1),(1,3,1),(2,9,1),(3,22,1)],4,56,some (.agg #[.int .i64 0,.int .i64 0,.string ⟨#[]⟩,.slice none 0 0]),true⟩:=by kernel_rfl
theorem Cc:Ak tab 24=some (.agg #[.int .i64 0,.int .i64 0,.string ⟨#[]⟩,.slice none 0 0]):=by unfold Ak;rw[DW]
theorem qld25 (a:Addr) {h:H}:AI tab E 24 a h=match h.cells E a 4 with|some cs=>some (.agg ⟨cs⟩)|none=>none:=by unfold AI;rw[DW];rfl
theorem Nq (a:Addr):AC tab 24 (.pointer (some a)) 0=some (.pointer (some (aadd a 0))):=by unfold AC;rw[DW];rfl
theorem Kh (a:Addr):AC tab 24 (.pointer (some a)) 1=some (.pointer (some (aadd a 1))):=by unfold AC;rw[DW];rfl
theorem Ic (a:Addr):AC tab 24 (.pointer (some a)) 2=some (.pointer (some (aadd a 2))):=by unfold AC;rw[DW];rfl
theorem Kg (a:Addr):AC tab 24 (.pointer (some a)) 3=some (.pointer (some (aadd a 3))):=by unfold AC;rw[DW];rfl
theorem ABO:tab.ty.get 30=some ⟨.int .i64,1,8,some (.int .i64 0),true⟩:=by kernel_rfl
theorem ABY (a:Addr) {h:H}:AI tab E 30 a h=h.cell E a:=by unfold AI;rw[ABO];rfl
theorem qty31:tab.ty.get 44=some ⟨.slice 5 1 1,1,24,some (.slice none 0 0),true⟩:=by kernel_rfl
theorem qtz31:Ak tab 44=some (.slice none 0 0):=by unfold Ak;rw[qty31]
theorem ABX (a:Addr) {h:H}:AI tab E 44 a h=h.cell E a:=by unfold AI;rw[qty31];rfl
theorem Fq {h:H} (b:Option Addr) (n c:Nat):Cp tab 44 (.slice b n c) h=some (.int .i64 n):=by unfold Cp;rw[qty31]
theorem Fv (a:Addr) (n c:Nat) (i:Int) (hi:AN i n=true):AL tab 44 (.slice (some a) n c) (.int .i64 i)=some (.pointer (some (aadd a (i.toNat*1)))):=by unfold AL;simp only[qty31,hi]
theorem ABN:tab.ty.get 25=some ⟨.slice 3 1 8,1,24,some (.slice none 0 0),true⟩:=by kernel_rfl
theorem ABW (a:Addr) {h:H}:AI tab E 25 a h=h.cell E a:=by unfold AI;rw[ABN];rfl
theorem YE {h:H} (b:Option Addr) (n c:Nat):Cp tab 25 (.slice b n c) h=some (.int .i64 n):=by unfold Cp;rw[ABN]
theorem Sl:tab.ty.get 114=some ⟨.struct [(0,9,1),(1,3,1),(2,30,1)],3,32,some (.agg #[.string ⟨#[]⟩,.int .i64 0,.int .i64 0]),true⟩:=by kernel_rfl
theorem ABV (a:Addr) {h:H}:AI tab E 114 a h=match h.cells E a 3 with|some cs=>some (.agg ⟨cs⟩)|none=>none:=by unfold AI;rw[Sl];rfl
theorem Sz (a:Addr):AC tab 114 (.pointer (some a)) 0=some (.pointer (some (aadd a 0))):=by unfold AC;rw[Sl];rfl
theorem Sy (a:Addr):AC tab 114 (.pointer (some a)) 1=some (.pointer (some (aadd a 1))):=by unfold AC;rw[Sl];rfl
theorem Sw (a:Addr):AC tab 114 (.pointer (some a)) 2=some (.pointer (some (aadd a 2))):=by unfold AC;rw[Sl];rfl
theorem Np:tab.ty.get 116=some ⟨.struct [(0,114,3),(3,3,1)],4,40,some (.agg #[.string ⟨#[]⟩,.int .i64 0,.int .i64 0,.int .i64 0]),true⟩:=by kernel_rfl
theorem ABJ:Ak tab 116=some (.agg #[.string ⟨#[]⟩,.int .i64 0,.int .i64 0,.int .i64 0]):=by unfold Ak;rw[Np]
theorem ABU (a:Addr) {h:H}:AI tab E 116 a h=match h.cells E a 4 with|some cs=>some (.agg ⟨cs⟩)|none=>none:=by unfold AI;rw[Np];rfl
theorem Sv (a:Addr):AC tab 116 (.pointer (some a)) 0=some (.pointer (some (aadd a 0))):=by unfold AC;rw[Np];rfl
theorem Su (a:Addr):AC tab 116 (.pointer (some a)) 1=some (.pointer (some (aadd a 3))):=by unfold AC;rw[Np];rfl
theorem ABP:tab.ty.get 156=some ⟨.func,1,8,some (.nilFunc),true⟩:=by kernel_rfl
theorem YL (a:Addr) {h:H}:AI tab E 156 a h=h.cell E a:=by unfold AI;rw[ABP];rfl
theorem GT:tab.ty.get 158=some ⟨.struct [(0,5,1),(1,156,1)],2,16,some (.agg #[.int .u8 0,.nilFunc]),true⟩:=by kernel_rfl
theorem HY:Ak tab 158=some (.agg #[.int .u8 0,.nilFunc]):=by unfold Ak;rw[GT]
theorem YK (a:Addr) {h:H}:AI tab E 158 a h=match h.cells E a 2 with|some cs=>some (.agg ⟨cs⟩)|none=>none:=by unfold AI;rw[GT];rfl
theorem Pa (a:Addr):AC tab 158 (.pointer (some a)) 0=some (.pointer (some (aadd a 0))):=by unfold AC;rw[GT];rfl
theorem PZ (a:Addr):AC tab 158 (.pointer (some a)) 1=some (.pointer (some (aadd a 1))):=by unfold AC;rw[GT];rfl
theorem Ib:tab.ty.get 159=some ⟨.array 3 158 2,6,48,some (.agg #[.int .u8 0,.nilFunc,.int .u8 0,.nilFunc,.int .u8 0,.nilFunc]),true⟩:=by kernel_rfl
theorem qtz142:Ak tab 159=some (.agg #[.int .u8 0,.nilFunc,.int .u8 0,.nilFunc,.int .u8 0,.nilFunc]):=by unfold Ak;rw[Ib]
theorem Ss (a:Addr) {h:H}:AI tab E 159 a h=match h.cells E a 6 with|some cs=>some (.agg ⟨cs⟩)|none=>none:=by unfold AI;rw[Ib];rfl
theorem Qx:(∀ (E:Env) (a:Addr) (h:H),AI tab E 3 a h=h.cell E a)/\(∀ (E:Env) (a:Addr) (h:H),AI tab E 4 a h=h.cell E a)/\(∀ (E:Env) (a:Addr) (h:H),AI tab E 5 a h=h.cell E a)/\(∀ (E:Env) (a:Addr) (h:H),AI tab E 9 a h=h.cell E a)/\(∀ (h:H) (s:ByteArray),Cp tab 9 (.string s) h=some (.int .i64 (s.data.toList.length:Nat)))/\(∀ (E:Env) (a:Addr) (h:H),AI tab E 22 a h=h.cell E a)/\(∀ (h:H) (b:Option Addr) (n c:Nat),Cp tab 22 (.slice b n c) h=some (.int .i64 n))/\(∀ (E:Env) (a:Addr) (h:H),AI tab E 24 a h=match h.cells E a 4 with|some cs=>some (.agg ⟨cs⟩)|none=>none)/\(∀ (a:Addr),AC tab 24 (.pointer (some a)) 0=some (.pointer (some (aadd a 0))))/\(∀ (a:Addr),AC tab 24 (.pointer (some a)) 1=some (.pointer (some (aadd a 1))))/\(∀ (a:Addr),AC tab 24 (.pointer (some a)) 2=some (.pointer (some (aadd a 2))))/\(∀ (a:Addr),AC tab 24 (.pointer (some a)) 3=some (.pointer (some (aadd a 3))))/\(∀ (E:Env) (a:Addr) (h:H),AI tab E 30 a h=h.cell E a)/\(∀ (E:Env) (a:Addr) (h:H),AI tab E 44 a h=h.cell E a)/\(∀ (h:H) (b:Option Addr) (n c:Nat),Cp tab 44 (.slice b n c) h=some (.int .i64 n))/\(∀ (E:Env) (a:Addr) (h:H),AI tab E 25 a h=h.cell E a)/\(∀ (h:H) (b:Option Addr) (n c:Nat),Cp tab 25 (.slice b n c) h=some (.int .i64 n))/\(∀ (E:Env) (a:Addr) (h:H),AI tab E 114 a h=match h.cells E a 3 with|some cs=>some (.agg ⟨cs⟩)|none=>none)/\(∀ (a:Addr),AC tab 114 (.pointer (some a)) 0=some (.pointer (some (aadd a 0))))/\(∀ (a:Addr),AC tab 114 (.pointer (some a)) 1=some (.pointer (some (aadd a 1))))/\(∀ (a:Addr),AC tab 114 (.pointer (some a)) 2=some (.pointer (some (aadd a 2))))/\(∀ (E:Env) (a:Addr) (h:H),AI tab E 116 a h=match h.cells E a 4 with|some cs=>some (.agg ⟨cs⟩)|none=>none)/\(∀ (a:Addr),AC tab 116 (.pointer (some a)) 0=some (.pointer (some (aadd a 0))))/\(∀ (a:Addr),AC tab 116 (.pointer (some a)) 1=some (.pointer (some (aadd a 3))))/\(∀ (E:Env) (a:Addr) (h:H),AI tab E 156 a h=h.cell E a)/\(∀ (E:Env) (a:Addr) (h:H),AI tab E 158 a h=match h.cells E a 2 with|some cs=>some (.agg ⟨cs⟩)|none=>none)/\(∀ (a:Addr),AC tab 158 (.pointer (some a)) 0=some (.pointer (some (aadd a 0))))/\(∀ (a:Addr),AC tab 158 (.pointer (some a)) 1=some (.pointer (some (aadd a 1))))/\(∀ (E:Env) (a:Addr) (h:H),AI tab E 159 a h=match h.cells E a 6 with|some cs=>some (.agg ⟨cs⟩)|none=>none):=
 ⟨fun E a h=>by first|exact AE7 _|exact AE7 _ _ _,fun E a h=>by first|exact AE6 _|exact AE6 _ _ _,fun E a h=>by first|exact AE5 _|exact AE5 _ _ _,fun E a h=>by first|exact AE4 _|exact AE4 _ _ _,fun h s=>by first|exact ZU _|exact ZU _ _ _,fun E a h=>by first|exact ABZ _|exact ABZ _ _ _,fun h b n c=>by first|exact So _|exact So _ _ _,fun E a h=>by first|exact qld25 _|exact qld25 _ _ _,fun a=>by first|exact Nq _|exact Nq _ _ _,fun a=>by first|exact Kh _|exact Kh _ _ _,fun a=>by first|exact Ic _|exact Ic _ _ _,fun a=>by first|exact Kg _|exact Kg _ _ _,fun E a h=>by first|exact ABY _|exact ABY _ _ _,fun E a h=>by first|exact ABX _|exact ABX _ _ _,fun h b n c=>by first|exact Fq _|exact Fq _ _ _,fun E a h=>by first|exact ABW _|exact ABW _ _ _,fun h b n c=>by first|exact YE _|exact YE _ _ _,fun E a h=>by first|exact ABV _|exact ABV _ _ _,fun a=>by first|exact Sz _|exact Sz _ _ _,fun a=>by first|exact Sy _|exact Sy _ _ _,fun a=>by first|exact Sw _|exact Sw _ _ _,fun E a h=>by first|exact ABU _|exact ABU _ _ _,fun a=>by first|exact Sv _|exact Sv _ _ _,fun a=>by first|exact Su _|exact Su _ _ _,fun E a h=>by first|exact YL _|exact YL _ _ _,fun E a h=>by first|exact YK _|exact YK _ _ _,fun a=>by first|exact Pa _|exact Pa _ _ _,fun a=>by first|exact PZ _|exact PZ _ _ _,fun E a h=>by first|exact Ss _|exact Ss _ _ _⟩
theorem AE2:tab.ty.get 2=some ⟨.int .i64,1,8,some (.int .i64 0),true⟩:=by kernel_rfl
theorem AE8 (a:Addr) {h:H}:AI tab E 2 a h=h.cell E a:=by unfold AI;rw[AE2];rfl
theorem Vt:tab.ty.get 93=some ⟨.int .u64,1,8,some (.int .u64 0),true⟩:=by kernel_rfl
theorem ABT (a:Addr) {h:H}:AI tab E 93 a h=h.cell E a:=by unfold AI;rw[Vt];rfl
theorem Sn:tab.ty.get 104=some ⟨.int .u32,1,4,some (.int .u32 0),true⟩:=by kernel_rfl
theorem YI (a:Addr) {h:H}:AI tab E 104 a h=h.cell E a:=by unfold AI;rw[Sn];rfl
theorem Sm:tab.ty.get 198=some ⟨.array 24 5 1,24,24,some (.agg #[.int .u8 0,.int .u8 0,.int .u8 0,.int .u8 0,.int .u8 0,.int .u8 0,.int .u8 0,.int .u8 0,.int .u8 0,.int .u8 0,.int .u8 0,.int .u8 0,.int .u8 0,.int .u8 0,.int .u8 0,.int .u8 0,.int .u8 0,.int .u8 0,.int .u8 0,.int .u8 0,.int .u8 0,.int .u8 0,.int .u8 0,.int .u8 0]),true⟩:=by kernel_rfl
theorem ABK:Ak tab 198=some (.agg #[.int .u8 0,.int .u8 0,.int .u8 0,.int .u8 0,.int .u8 0,.int .u8 0,.int .u8 0,.int .u8 0,.int .u8 0,.int .u8 0,.int .u8 0,.int .u8 0,.int .u8 0,.int .u8 0,.int .u8 0,.int .u8 0,.int .u8 0,.int .u8 0,.int .u8 0,.int .u8 0,.int .u8 0,.int .u8 0,.int .u8 0,.int .u8 0]):=by unfold Ak;rw[Sm]
theorem YG (a:Addr) {h:H}:AI tab E 198 a h=match h.cells E a 24 with|some cs=>some (.agg ⟨cs⟩)|none=>none:=by unfold AI;rw[Sm];rfl
theorem YC:tab.ty.get 204=some ⟨.array 20 93 1,20,160,some (.agg #[.int .u64 0,.int .u64 0,.int .u64 0,.int .u64 0,.int .u64 0,.int .u64 0,.int .u64 0,.int .u64 0,.int .u64 0,.int .u64 0,.int .u64 0,.int .u64 0,.int .u64 0,.int .u64 0,.int .u64 0,.int .u64 0,.int .u64 0,.int .u64 0,.int .u64 0,.int .u64 0]),true⟩:=by kernel_rfl
theorem YF (a:Addr) {h:H}:AI tab E 204 a h=match h.cells E a 20 with|some cs=>some (.agg ⟨cs⟩)|none=>none:=by unfold AI;rw[YC];rfl
theorem ABa (a:Addr) (i:Int) (hi:AN i 20=true):AL tab 204 (.pointer (some a)) (.int .i64 i)=some (.pointer (some (aadd a (i.toNat*1)))):=by unfold AL;simp only[YC,hi]
theorem ABS:tab.ty.get 98=some ⟨.pointer 100,1,8,some (.pointer none),true⟩:=by kernel_rfl
theorem YP (a:Addr) {h:H}:AI tab E 98 a h=h.cell E a:=by unfold AI;rw[ABS];rfl
theorem PY:tab.ty.get 100=some ⟨.struct [(0,98,1),(1,44,1)],2,32,some (.agg #[.pointer none,.slice none 0 0]),true⟩:=by kernel_rfl
theorem ABM:Ak tab 100=some (.agg #[.pointer none,.slice none 0 0]):=by unfold Ak;rw[PY]
theorem YO (a:Addr) {h:H}:AI tab E 100 a h=match h.cells E a 2 with|some cs=>some (.agg ⟨cs⟩)|none=>none:=by unfold AI;rw[PY];rfl
theorem Pb (a:Addr):AC tab 100 (.pointer (some a)) 0=some (.pointer (some (aadd a 0))):=by unfold AC;rw[PY];rfl
theorem FY (a:Addr):AC tab 100 (.pointer (some a)) 1=some (.pointer (some (aadd a 1))):=by unfold AC;rw[PY];rfl
theorem ABR:tab.ty.get 174=some ⟨.int .u64,1,8,some (.int .u64 0),true⟩:=by kernel_rfl
theorem YN (a:Addr) {h:H}:AI tab E 174 a h=h.cell E a:=by unfold AI;rw[ABR];rfl
theorem ABQ:tab.ty.get 154=some ⟨.pointer 116,1,8,some (.pointer none),true⟩:=by kernel_rfl
theorem YM (a:Addr) {h:H}:AI tab E 154 a h=h.cell E a:=by unfold AI;rw[ABQ];rfl
theorem GS:tab.ty.get 145=some ⟨.array 2 5 1,2,2,some (.agg #[.int .u8 0,.int .u8 0]),true⟩:=by kernel_rfl
theorem Sk:Ak tab 145=some (.agg #[.int .u8 0,.int .u8 0]):=by unfold Ak;rw[GS]
theorem Sr (a:Addr) {h:H}:AI tab E 145 a h=match h.cells E a 2 with|some cs=>some (.agg ⟨cs⟩)|none=>none:=by unfold AI;rw[GS];rfl
theorem YR (a:Addr) (i:Int) (hi:AN i 2=true):AL tab 145 (.pointer (some a)) (.int .i64 i)=some (.pointer (some (aadd a (i.toNat*1)))):=by unfold AL;simp only[GS,hi]
theorem YD:tab.ty.get 148=some ⟨.pointer 5,1,8,some (.pointer none),true⟩:=by kernel_rfl
theorem YJ (a:Addr) {h:H}:AI tab E 148 a h=h.cell E a:=by unfold AI;rw[YD];rfl
theorem PX:tab.ty.get 186=some ⟨.map 5 5,1,8,some (.map none),true⟩:=by kernel_rfl
theorem ABL:Ak tab 186=some (.map none):=by unfold Ak;rw[PX]
theorem YH (a:Addr) {h:H}:AI tab E 186 a h=h.cell E a:=by unfold AI;rw[PX];rfl
theorem Qi:(∀ (E:Env) (a:Addr) (h:H),AI tab E 2 a h=h.cell E a)/\(∀ (E:Env) (a:Addr) (h:H),AI tab E 93 a h=h.cell E a)/\(∀ (E:Env) (a:Addr) (h:H),AI tab E 104 a h=h.cell E a)/\(∀ (E:Env) (a:Addr) (h:H),AI tab E 198 a h=match h.cells E a 24 with|some cs=>some (.agg ⟨cs⟩)|none=>none)/\(∀ (E:Env) (a:Addr) (h:H),AI tab E 204 a h=match h.cells E a 20 with|some cs=>some (.agg ⟨cs⟩)|none=>none)/\(∀ (E:Env) (a:Addr) (h:H),AI tab E 98 a h=h.cell E a)/\(∀ (E:Env) (a:Addr) (h:H),AI tab E 100 a h=match h.cells E a 2 with|some cs=>some (.agg ⟨cs⟩)|none=>none)/\(∀ (a:Addr),AC tab 100 (.pointer (some a)) 0=some (.pointer (some (aadd a 0))))/\(∀ (a:Addr),AC tab 100 (.pointer (some a)) 1=some (.pointer (some (aadd a 1))))/\(∀ (E:Env) (a:Addr) (h:H),AI tab E 174 a h=h.cell E a)/\(∀ (E:Env) (a:Addr) (h:H),AI tab E 154 a h=h.cell E a)/\(∀ (E:Env) (a:Addr) (h:H),AI tab E 145 a h=match h.cells E a 2 with|some cs=>some (.agg ⟨cs⟩)|none=>none)/\(∀ (E:Env) (a:Addr) (h:H),AI tab E 148 a h=h.cell E a)/\(∀ (E:Env) (a:Addr) (h:H),AI tab E 186 a h=h.cell E a):=
 ⟨fun E a h=>by first|exact AE8 _|exact AE8 _ _ _,fun E a h=>by first|exact ABT _|exact ABT _ _ _,fun E a h=>by first|exact YI _|exact YI _ _ _,fun E a h=>by first|exact YG _|exact YG _ _ _,fun E a h=>by first|exact YF _|exact YF _ _ _,fun E a h=>by first|exact YP _|exact YP _ _ _,fun E a h=>by first|exact YO _|exact YO _ _ _,fun a=>by first|exact Pb _|exact Pb _ _ _,fun a=>by first|exact FY _|exact FY _ _ _,fun E a h=>by first|exact YN _|exact YN _ _ _,fun E a h=>by first|exact YM _|exact YM _ _ _,fun E a h=>by first|exact Sr _|exact Sr _ _ _,fun E a h=>by first|exact YJ _|exact YJ _ _ _,fun E a h=>by first|exact YH _|exact YH _ _ _⟩
end Go.Proofs.YtofijpbmbmbnhaaGreatDoor
namespace Go.Hs
section
variable {D:Tab} {E:Env}
variable {b top:Nat} {h g:H} {s1 s2 s3:Value} {ts:List Item} {bs:List UInt8} {ns:List Nat}
theorem IA {h:H} {base:Nat} {e:TypeId} {sz:Nat} {s:Value} {n:Nat} {xs:List Value} {ro:Option Nat} (a:Ap2 h base e sz s n xs ro):∀ r,ro=some r->base<=r/\r<h.next:=fun r hr=>by
 rcases a with⟨_,_,_,e3⟩|⟨_,rr,_,_,_,_,e5,e6,_,e8⟩
 ·rw[e3] at hr;cases hr
 ·rw[e8] at hr;cases hr;exact⟨e5,e6⟩
end
structure Gk (ro:Option Nat) (h g:H):Prop where
 fit:Fit g
 grows:BL h g
 log:g.log=h.log
 mark:g.mark=h.mark
 next:h.next<=g.next
 chain:∀ r,r<h.next->ro≠some r->g.chain r=h.chain r
theorem Ahd.gk {h g:H} {ro:Option Nat} (a:Ahd h g):Gk ro h g:=⟨a.fit,a.grows,a.log,a.mark,a.next,fun r hr _=>a.chain r hr⟩
theorem Ahd.gkA {h0 h g:H} {ro:Option Nat} (a:Ahd h0 h) (k:Gk ro h g) (hro:∀ r,ro=some r->h0.next<=r):Ahd h0 g:=
 ⟨k.fit,a.grows.trans k.grows,k.log.trans a.log,k.mark.trans a.mark,Y0 a.next k.next,fun r hr=>(k.chain r (Q1 hr a.next) (fun e=>by have:=hro r e;omega)).trans (a.chain r hr)⟩
def Ap3 (h:H) (base:Nat) (e:TypeId) (sz:Nat) (s:Value) (n:Nat) (xs:List Value) (ro:Option Nat):Prop:=
 Ap2 h base e sz s n xs ro\/∃ k,s=.slice (some (own k)) n n/\h.blk k=some (.cells xs e none)/\xs.length=n*sz/\xs.all isOne=true/\ro=none
theorem Ap3.grow {h g:H} {base:Nat} {e:TypeId} {sz:Nat} {s:Value} {n:Nat} {xs:List Value} {ro:Option Nat} (a:Ap3 h base e sz s n xs ro) (f:Fit h) (G:Ahd h g):Ap3 g base e sz s n xs ro:=by
 rcases a with a|⟨k,e1,e2,e3⟩
 ·exact .inl (a.mod (M:=fun _=>False) G.mod (fun _ _ h=>h.elim))
 ·exact .inr ⟨k,e1,G.grows _ _ e2,e3⟩
theorem Ap3.get {h:H} {base:Nat} {e:TypeId} {sz:Nat} {s:Value} {n:Nat} {xs:List Value} {ro:Option Nat} (a:Ap3 h base e sz s n xs ro):(n=0/\xs=[]/\s=.slice none 0 0)\/∃ k rt,s=.slice (some (own k)) n n/\h.blk k=some (.cells xs e rt)/\xs.length=n*sz/\xs.all isOne=true:=by
 rcases a with (⟨h1,h2,h3,_⟩|⟨k,r,e1,e2,e3,e4,_⟩)|⟨k,e1,e2,e3,e4,_⟩
 ·exact .inl ⟨h1,h2,h3⟩
 ·exact .inr ⟨k,_,e1,e2,e3,e4⟩
 ·exact .inr ⟨k,_,e1,e2,e3,e4⟩
theorem Ap3.root {h:H} {base:Nat} {e:TypeId} {sz:Nat} {s:Value} {n:Nat} {xs:List Value} {ro:Option Nat} (a:Ap3 h base e sz s n xs ro):∀ r,ro=some r->base<=r/\r<h.next:=by
 rcases a with a|⟨k,e1,e2,e3,e4,rfl⟩
 ·exact IA a
 ·intro r h;cases h
theorem XD {D:Tab} {E:Env} {h:H} {base:Nat} {t t2 e:TypeId} {sz by_ n m c i6 i7:Nat} {ax:Addr} {i8:Option Value} {i9:Bool} {s ze:Value} {xs cs:List Value} {ro:Option Nat} (f:Fit h) (hbn:base<=h.next) (ap:Ap3 h base e sz s n xs ro)
  (ht:D.ty.get t=some ⟨.slice e sz by_,i6,i7,i8,i9⟩) (hz:Ak D e=some ze) (hzz:(Nat.beq ze.cells.toList.length sz&&Nat.blt 0 sz&&ze.cells.toList.all isOne)=true) (hzt:Ax D t2 (.slice (some ax) (m+1) c)=some false)
  (hx:h.cells E ax ((m+1)*sz)=some cs) (hcl:cs.length=(m+1)*sz) (hc1:cs.all isOne=true) (hrm:roomy (n+(m+1)) by_=true) :
  ∃ s' h' ro',Ab D E t t2 s (.slice (some ax) (m+1) c) h=some (s',h')/\Ap2 h' base e sz s' (n+(m+1)) (xs++cs) ro'/\Gk ro h h'/\(ro=none/\ro'=some h.next\/ro≠none/\ro'=ro):=by
 rcases ap with ap|⟨k,rfl,hb,hl,h1,rfl⟩
 ·have ap0:=ap;obtain⟨s',h',ro',happ,a2,gw,hroo,hch⟩:=QA f hbn ap ht hz hzz hzt hx hcl hc1 hrm;refine⟨s',h',ro',happ,a2,⟨gw.fit,fun j B hB => ?_,gw.log,gw.mark,gw.next,hch⟩,hroo⟩;by_cases hr:PR ro B
  ·exact gw.keep _ _ hB hr
  ·-- a block of the chain: none is hit
   rcases ap0 with⟨_,_,_,rfl⟩|⟨k,r,rfl,hb,hl,h1,hbr,hrx,hch',rfl⟩
   ·exact absurd (fun _ _ _ _ _=>by simp) hr
   rcases a2 with⟨e0,_⟩|⟨k',r',e1,e2,e3,e4,e5,e6,e7,e8⟩
   ·omega
   rcases hroo with⟨hc,_⟩|⟨_,hroo⟩
   ·cases hc
   rw[hroo] at e8;cases e8;have hap:Ab D E t t2 (.slice (some (own k)) n n) (.slice (some ax) (m+1) c) h=some (.slice (some (own h.next)) (n+(m+1)) (n+(m+1)),h.grow e r (0+(own k).off) (n*sz) (own k).block (xs.drop (own k).off) cs):=by
    have hel:BO E sz ze.cells.toList (.slice (some ax) (m+1) c) h=some (m+1,cs):=by simp only[BO,hx]
    have hbl:Nat.beq cs.length ((m+1)*sz)=true:=by rw[hcl];exact V1 _
    unfold Ab;rw[ht];simp only[hz,hzt,hzz,hel,hbl,hrm];have q1:(own k).spot=some 0:=rfl;have q2:(own k).block=k:=rfl;have q3:(own k).off=0:=rfl;have q4:Nat.ble (n+(m+1)) n=false:=by
     cases hq:Nat.ble (n+(m+1)) n
     ·rfl
     ·rw[Z0] at hq;omega
    simp only[q1,q2,hb,q4];have q5:(Nat.beq n n&&Nat.beq ((own k).off+n*sz) xs.length&&Nat.beq e e&&(xs.drop (own k).off).all isOne&&Nat.ble (own k).off xs.length)=true:=by
     rw[q3,Z1,hl,F2,h1,V1,V1,V1];simp[Nat.ble]
    simp only[q5]
   rw[hap] at happ;have hg:=(Prod.mk.inj (Option.some.inj happ)).2;have hcg:h'.chain r=h.next::h.spare r k (n*sz) (n*sz+cs.length):=by
    rw[<- hg];unfold H.grow H.chain;rw[DZ];simp only[T.get_set_same,Option.getD,own,Z1]
   have hdg:h'.dyn=h.dyn.set h.next (.cells (xs++cs) e (some (r,0))):=by
    rw[<- hg];unfold H.grow;rw[H.au];simp only[own,F2,E3]
   have hjn:=f.lt hB;rw[<- hB];refine Ar (by rw[hdg,T.get_set_ne _ _ _ _ (by omega)]) (fun ys u r' q hd' => ?_);by_cases hrr:r'=r
   ·subst hrr;rw[hcg];constructor
    ·intro hj;rcases O1.1 hj with rfl|hj
     ·omega
     ·exact (BS.1 hj).1
    ·intro hj;refine List.mem_cons_of_mem _ (BS.2 ⟨hj,?_⟩);obtain⟨ys',ty,p,hd,hle⟩:=hch' j hj;unfold H.ay;split
     ·rfl
     ·rw[hd];have:Nat.blt (n*sz) (p+ys'.length)=false:=by
       cases hq:Nat.blt (n*sz) (p+ys'.length)
       ·rfl
       ·rw[P0] at hq;omega
      simp only[this,Bool.false_and]
   ·rw[hch r' (f.ok.1 _ _ _ _ _ (by
     have:=H.ae hB
     first|exact hd'|(rw[hdg,T.get_set_ne _ _ _ _ (by omega)] at hd'; exact hd'))) (fun e=>hrr (Option.some.inj e).symm)]
 ·have hel:BO E sz ze.cells.toList (.slice (some ax) (m+1) c) h=some (m+1,cs):=by simp only[BO,hx]
  have hbl:Nat.beq cs.length ((m+1)*sz)=true:=by rw[hcl];exact V1 _
  refine⟨.slice (some (own h.next)) (n+(m+1)) (n+(m+1)),h.af (xs++cs) e,some h.next,?_,.inr ⟨h.next,h.next,rfl,Bg,?_,?_,hbn,I5 _,?_,rfl⟩,(Ahd.af f _ _).gk,.inl ⟨rfl,rfl⟩⟩
  ·unfold Ab;rw[ht];simp only[hz,hzt,hzz,hel,hbl,hrm];have q1:(own k).spot=some 0:=rfl;have q2:(own k).block=k:=rfl;have q4:Nat.ble (n+(m+1)) n=false:=by
    cases hq:Nat.ble (n+(m+1)) n
    ·rfl
    ·rw[Z0] at hq;omega
   have q6:h.cells E (own k) (n*sz)=some xs:=AG hb hl h1;simp only[q1,q2,hb,q4,q6]
  ·rw[D0,hl,hcl,<- U3]
  ·rw[J4,h1,hc1];rfl
  ·intro j hj;simp only[H.chain,H.af,T.get_set_same,Option.getD,H1] at hj;subst hj;exact⟨xs++cs,e,0,T.get_set_same _ _ _,by rw[Z1,D0,hl,hcl,<- U3];exact C0 _⟩
theorem J7 (h h1:H):BL h1 (Hs.back h h1):=fun _ _ hb=>by rw[BQ];exact hb
/-! ### Lists of numbers, and lists of those -/
theorem ZO {pre d post:List Value} {i:Nat} {x:Value} (hi:i<d.length):(pre++d++post).take (pre.length+i)++[x]++(pre++d++post).drop (pre.length+i+1)=pre++d.set i x++post:=by
 rw[E1 pre d post,List.take_append,List.take_of_length_le (by omega),show pre.length+i-pre.length=i by omega,show pre.length+i+1=pre.length+(i+1) by omega,<- List.drop_drop,List.drop_left];rw[List.take_append_of_le_length (by omega),List.drop_append_of_le_length (by omega),List.set_eq_take_append_cons_drop,if_pos hi];simp
theorem KH (d:List UInt8) (i:Nat) (x:UInt8):bytesV (d.set i x)=(bytesV d).set i (.int .u8 (x.toNat:Nat)):=by
 simp only[bytesV,List.map_set]
theorem SQ {pre post:List Value} {d:Array UInt8} {i o:Nat} {x:UInt8} (hi:i<d.size) (ho:o=pre.length+i):(pre++bytesV d.toList++post).take o++[.int .u8 (x.toNat:Nat)]++(pre++bytesV d.toList++post).drop (o+1)=pre++bytesV (d.setIfInBounds i x).toList++post:=by
 rw[ho,ZO (by rw[AM];simpa using hi),Array.toList_setIfInBounds,KH]
theorem Gv {pre post:List Value} {d:Array UInt8}:(pre++bytesV d.toList++post).length=pre.length+d.size+post.length:=by
 simp[AM];omega
theorem Wd {u:Nat} {v:Nat} {d:Array UInt8} (h:Lib.FmtInv (Lib.nDigits u) u 0 v d):d.toList=Lib.decDigits u:=by
 rw[Lib.decDigits_eq];apply List.ext_getElem
 ·simp[h.size]
 ·intro t h1 h2;have ht:t<Lib.nDigits u:=by simpa [h.size] using h1
  have:=h.done t (C2 _) ht;rw[getElem!_pos d t (by rw[h.size];exact ht)] at this;simp only[Array.getElem_toList,List.getElem_map,List.getElem_range];rw[this]
theorem UT {n k:Nat} (h:n<10 ^ k) (hk:1<=k):Lib.nDigits n<=k:=by
 apply Classical.byContradiction;intro hc;have h1:∀ (j u:Nat),j<Lib.nDigits u->1<=j->10 ^ j<=u:=by
  intro j;induction j with
  | zero=>intro u _ h;omega
  | succ j ih=>
   intro u hj _;by_cases hu:u<10
   ·rw[Lib.nDigits_small hu] at hj;omega
   ·rw[Lib.nDigits_big hu] at hj;rcases Nat.eq_zero_or_pos j with rfl|hj0
    ·simpa using Nat.le_of_not_lt hu
    ·have:=ih (u / 10) (by omega) hj0;rw[Nat.pow_succ];have h2:=Nat.mul_le_mul_right 10 this;omega
 have:=h1 k n (by omega) hk;omega
theorem YB (k:IntKind) (a b:Nat) (hb:0<b) (hw:k.wrap ((a / b:Nat):Int)=((a / b:Nat):Int)):Bk .quo k (a:Nat) (b:Nat)=some (.int k ((a / b:Nat):Int)):=by
 match b,hb with
 | b+1,_=>
  show some (Value.int k (k.wrap ((a:Int).tdiv ((b+1:Nat):Int))))=_;rw[show ((a:Int).tdiv ((b+1:Nat):Int))=((a / (b+1):Nat):Int) from rfl,hw]
theorem VF (k:IntKind) (a b:Nat) (hb:0<b):Bk .rem k (a:Nat) (b:Nat)=some (.int k ((a % b:Nat):Int)):=by
 match b,hb with
 | b+1,_=>rfl
theorem KN {x:Nat} (h:x<18446744073709551616):IntKind.u64.wrap (x:Nat)=(x:Nat):=by
 simp only[IntKind.wrap,IntKind.bits,IntKind.signed];simp;omega
theorem Bs {x:Nat} (h:x<4294967296):IntKind.u32.wrap (x:Nat)=(x:Nat):=by
 simp only[IntKind.wrap,IntKind.bits,IntKind.signed];simp;omega
end Go.Hs
set_option maxHeartbeats 8000000
namespace Go.Proofs.YtofijpbmbmbnhaaGreatDoor
open Go Go.Hs Go.Proofs
variable {E:Env} {I:Aa}
theorem AES:tab.fn.get 101=some Tryz.f101:=by kernel_rfl
theorem AER:tab.fn.get 102=some Tryz.f102:=by kernel_rfl
theorem AEA:tab.fn.get 126=some Tryz.f126:=by kernel_rfl
def Src (k:Nat) (bs:List UInt8) (pos:Nat) (e:Int) (items:Nat) (g:H):Prop:=g.blk k=some (.cells [.string ⟨⟨bs⟩⟩,.int .i64 (pos:Nat),.int .i64 e,.int .i64 (items:Nat)] 116 none)
theorem Src.at {k:Nat} {bs:List UInt8} {pos:Nat} {e:Int} {items:Nat} {g:H} (b:Src k bs pos e items g):g.cell E (own k)=some (.string ⟨⟨bs⟩⟩)/\g.cell E (aadd (own k) 1)=some (.int .i64 (pos:Nat))/\g.cell E (aadd (own k) 2)=some (.int .i64 e)/\g.cell E (aadd (own k) 3)=some (.int .i64 (items:Nat)):=
 ⟨BJ b,Aq b 1,Aq b 2,Aq b 3⟩
theorem Src.mod {k:Nat} {bs:List UInt8} {pos:Nat} {e:Int} {items:Nat} {g g':H} {M:Nat->Prop} (b:Src k bs pos e items g) (m:Mod M g g') (hk:¬ M k):Src k bs pos e items g':=m.blk _ _ hk b
theorem Src.back {k:Nat} {bs:List UInt8} {pos:Nat} {e:Int} {items:Nat} {h g:H} (b:Src k bs pos e items g):Src k bs pos e items (Hs.back h g):=by
 unfold Src;rw[BQ];exact b
theorem Src.pos {k:Nat} {bs:List UInt8} {pos:Nat} {e:Int} {items:Nat} {g:H} (b:Src k bs pos e items g) (p:Nat):AO tab 3 (aadd (own k) 1) (.int .i64 (p:Nat)) g=some (g.aa k (.cells [.string ⟨⟨bs⟩⟩,.int .i64 (p:Nat),.int .i64 e,.int .i64 (items:Nat)] 116 none))/\Src k bs p e items (g.aa k (.cells [.string ⟨⟨bs⟩⟩,.int .i64 (p:Nat),.int .i64 e,.int .i64 (items:Nat)] 116 none)):=
 ⟨Aj Rm rfl b rfl rfl (by simp) rfl,AD rfl⟩
theorem Src.err {k:Nat} {bs:List UInt8} {pos:Nat} {e:Int} {items:Nat} {g:H} (b:Src k bs pos e items g) (e':Int):AO tab 30 (aadd (own k) 2) (.int .i64 e') g=some (g.aa k (.cells [.string ⟨⟨bs⟩⟩,.int .i64 (pos:Nat),.int .i64 e',.int .i64 (items:Nat)] 116 none))/\Src k bs pos e' items (g.aa k (.cells [.string ⟨⟨bs⟩⟩,.int .i64 (pos:Nat),.int .i64 e',.int .i64 (items:Nat)] 116 none)):=
 ⟨Aj ABO rfl b rfl rfl (by simp) rfl,AD rfl⟩
theorem Src.num {k:Nat} {bs:List UInt8} {pos:Nat} {e:Int} {items:Nat} {g:H} (b:Src k bs pos e items g) (p:Nat):AO tab 3 (aadd (own k) 3) (.int .i64 (p:Nat)) g=some (g.aa k (.cells [.string ⟨⟨bs⟩⟩,.int .i64 (pos:Nat),.int .i64 e,.int .i64 (p:Nat)] 116 none))/\Src k bs pos e p (g.aa k (.cells [.string ⟨⟨bs⟩⟩,.int .i64 (pos:Nat),.int .i64 e,.int .i64 (p:Nat)] 116 none)):=
 ⟨Aj Rm rfl b rfl rfl (by simp) rfl,AD rfl⟩
theorem Ce (hI:∀ args h,I 101 args h=none) {k:Nat} {bs:List UInt8} {pos:Nat} {e:Int} {items:Nat} {g:H} (f:Fit g) (b:Src k bs pos e items g) (e':Int) (p:Nat) :
  ∃ n g',(ev tab E I n).call 101 [.pointer (some (own k)),.int .i64 e',.int .i64 (p:Nat)] g=some (.bool false,g')/\Mod (fun j=>j=k) g g'/\Src k bs p e' items g':=by
 suffices hw:∃ n v g',(ev tab E I n).call 101 [.pointer (some (own k)),.int .i64 e',.int .i64 (p:Nat)] g=some (v,g')/\(v=.bool false/\Mod (fun j=>j=k) g g'/\Src k bs p e' items g') by
  obtain⟨n,v,g',h1,rfl,h2,h3⟩:=hw;exact⟨n,g',h1,h2,h3⟩
 apply Wk (hI _ _) AES rfl;intro A0 n0 d0 hA0;change A0.n=15 at n0;have q0:A0.get 0=.pointer (some (own k)):=hA0 0 _ rfl;have q1:A0.get 1=.int .i64 e':=hA0 1 _ rfl;have q2:A0.get 2=.int .i64 (p:Nat):=hA0 2 _ rfl;clear hA0;have kl:k<g.next:=f.lt b;obtain⟨s1,b1⟩:=b.err e';have m1:=(Mod.refl (M:=fun j=>j=k) f).aa (B:=.cells [.string ⟨⟨bs⟩⟩,.int .i64 (pos:Nat),.int .i64 e',.int .i64 (items:Nat)] 116 none) rfl rfl kl;generalize g.aa k (.cells [.string ⟨⟨bs⟩⟩,.int .i64 (pos:Nat),.int .i64 e',.int .i64 (items:Nat)] 116 none)=g1 at s1 b1 m1;obtain⟨s2,b2⟩:=b1.pos p;have m2:=m1.aa (B:=.cells [.string ⟨⟨bs⟩⟩,.int .i64 (p:Nat),.int .i64 e',.int .i64 (items:Nat)] 116 none) rfl rfl (Q1 kl m1.next);refine Vw (Z8 n0 q0 q1 q2 @Qx @Hx @s1 @s2) ?_;exact AW (v:=.bool false) (.inr rfl) (S0 d0) rfl (S0 n0) ⟨rfl,m2,b2⟩
theorem H8 (hI:∀ f args h,(f=102\/f=101)->I f args h=none) {k:Nat} {bs:List UInt8} {pos items:Nat} {g:H} (f:Fit g) (b:Src k bs pos 0 items g) (hi:items<=5000) (level:Nat) :
  ∃ n v g',(ev tab E I n).call 102 [.pointer (some (own k)),.int .i64 (level:Nat)] g=some (v,g')/\(Mod (fun j=>j=k) g g'/\((250<level/\v=.bool false/\Src k bs pos 11 items g')\/(level<=250/\items=5000/\v=.bool false/\Src k bs pos 2 items g')\/(level<=250/\items<5000/\v=.bool true/\Src k bs pos 0 (items+1) g'))):=by
 have kl:k<g.next:=f.lt b;obtain⟨c0,c1,c2,c3⟩:=b.at (E:=E);apply Wk (hI _ _ _ (.inl rfl)) AER rfl;intro A0 n0 d0 hA0;change A0.n=39 at n0;have q0:A0.get 0=.pointer (some (own k)):=hA0 0 _ rfl;have q1:A0.get 1=.int .i64 (level:Nat):=hA0 1 _ rfl;clear hA0;by_cases h1:250<level
 ·have e1:decide ((level:Int)>250)=true:=by simp;omega
  obtain⟨nf,g',ck,m,b'⟩:=Ce (E:=E) (I:=I) (fun args h=>hI _ args h (.inr rfl)) f.fresh (show Src k bs pos 0 items (fresh g) from b) 11 pos;obtain⟨m',_,hn,hl⟩:=Mod.back f m;refine Vw (Z6 n0 q0 q1 @Qx @Hx e1) ?_;refine Wc.ao nf (by kernel_rfl) ?_
  (iterate 8 refine Ug (Z6 n0 q0 q1 @Qx @Hx @c1) ?_)
  refine FQ.mod (h1:=g') (x:=.bool false) rfl rfl (by simp +decide only[Oy,n0,q0,Qx,Hx,ck]) ?_
  (iterate 1 refine Ug (Z2 n0 q0) ?_)
  refine FQ.nil ⟨?_,?_⟩
  ·exact Ah [8] 10 rfl rfl (by kernel_rfl)
  refine Wc.ret ?_;show (Ex.ret=.normal\/Ex.ret=.ret)/\_;refine AW (v:=.bool false) (.inr rfl) (S0 d0) rfl (S0 n0) ⟨m',.inl ⟨h1,rfl,b'.back⟩⟩
 ·have e1:decide ((level:Int)>250)=false:=by simp;omega
  by_cases h2:items=5000
  ·have e2:decide ((items:Int)=5000)=true:=by simp;omega
   obtain⟨nf,g',ck,m,b'⟩:=Ce (E:=E) (I:=I) (fun args h=>hI _ args h (.inr rfl)) f.fresh (show Src k bs pos 0 items (fresh g) from b) 2 pos;obtain⟨m',_,hn,hl⟩:=Mod.back f m;refine Vw (Z8 n0 q0 q1 @Qx @Hx e1 e2 @c3) ?_;refine Wc.ao nf (by kernel_rfl) ?_
   (iterate 8 refine Ug (Z6 n0 q0 q1 @Qx @Hx @c1) ?_)
   refine FQ.mod (h1:=g') (x:=.bool false) rfl rfl (by simp +decide only[Oy,n0,q0,Qx,Hx,ck]) ?_
   (iterate 1 refine Ug (Z2 n0 q0) ?_)
   refine FQ.nil ⟨?_,?_⟩
   ·exact Ah [8] 10 rfl rfl (by kernel_rfl)
   refine Wc.ret ?_;show (Ex.ret=.normal\/Ex.ret=.ret)/\_;refine AW (v:=.bool false) (.inr rfl) (S0 d0) rfl (S0 n0) ⟨m',.inr (.inl ⟨by omega,h2,rfl,b'.back⟩)⟩
  ·have e2:decide ((items:Int)=5000)=false:=by simp;omega
   have w1:IntKind.i64.wrap ((items:Int)+1)=((items+1:Nat):Int):=wrap64 (by omega) (by omega);obtain⟨s1,b1⟩:=b.num (items+1);have m1:=(Mod.refl (M:=fun j=>j=k) f).aa (B:=.cells [.string ⟨⟨bs⟩⟩,.int .i64 (pos:Nat),.int .i64 0,.int .i64 (items+1:Nat)] 116 none) rfl rfl kl;refine Vw (Z10 n0 q0 q1 @Qx @Hx e1 e2 @c3 @w1 @s1) ?_;refine AW (v:=.bool true) (.inr rfl) (S0 d0) rfl (S0 n0) ⟨m1,.inr (.inr ⟨by omega,by omega,rfl,b1⟩)⟩
end Go.Proofs.YtofijpbmbmbnhaaGreatDoor
