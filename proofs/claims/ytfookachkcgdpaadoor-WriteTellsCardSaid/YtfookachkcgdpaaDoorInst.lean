/- What the engine asks of each type and function: closed facts, written by a program of this work. No condition. -/
import Derived.Test.YtfookachkcgdpaaDoorObs
import Derived.Test.YtfookachkcgdpaaDoorProg
import Derived.KernelRfl
set_option maxRecDepth 100000
set_option linter.unusedVariables false
namespace Go.Proofs.YtfookachkcgdpaaDoor
open Go.Proofs

instance : TI Go.Proofs.Tryd.prog 0 (Go.TypeDesc.tuple #[]) 1 (Go.Value.tuple #[]) false := ⟨Tryd.underlying0, Tryd.sizeOf0, Tryd.zeroValue0, Tryd.isAgg0⟩
instance : TI Go.Proofs.Tryd.prog 1 (Go.TypeDesc.func #[] #[] Bool.false) 1 Go.Value.nilFunc false := ⟨Tryd.underlying1, Tryd.sizeOf1, Tryd.zeroValue1, Tryd.isAgg1⟩
instance : TI Go.Proofs.Tryd.prog 2 (Go.TypeDesc.int Go.IntKind.i64) 1 (Go.Value.int Go.IntKind.i64 0) false := ⟨Tryd.underlying2, Tryd.sizeOf2, Tryd.zeroValue2, Tryd.isAgg2⟩
instance : TI Go.Proofs.Tryd.prog 3 (Go.TypeDesc.int Go.IntKind.i64) 1 (Go.Value.int Go.IntKind.i64 0) false := ⟨Tryd.underlying3, Tryd.sizeOf3, Tryd.zeroValue3, Tryd.isAgg3⟩
instance : TI Go.Proofs.Tryd.prog 4 Go.TypeDesc.bool 1 (Go.Value.bool Bool.false) false := ⟨Tryd.underlying4, Tryd.sizeOf4, Tryd.zeroValue4, Tryd.isAgg4⟩
instance : TI Go.Proofs.Tryd.prog 5 (Go.TypeDesc.int Go.IntKind.u8) 1 (Go.Value.int Go.IntKind.u8 0) false := ⟨Tryd.underlying5, Tryd.sizeOf5, Tryd.zeroValue5, Tryd.isAgg5⟩
instance : TI Go.Proofs.Tryd.prog 6 (Go.TypeDesc.int Go.IntKind.u8) 1 (Go.Value.int Go.IntKind.u8 0) false := ⟨Tryd.underlying6, Tryd.sizeOf6, Tryd.zeroValue6, Tryd.isAgg6⟩
instance : TI Go.Proofs.Tryd.prog 7 (Go.TypeDesc.struct #[{ name := "x", type := 2, offset := 0, embedded := Bool.false, tag := "", pkgPath := "runtime", byteOffset := 0 }, { name := "y", type := 3, offset := 1, embedded := Bool.false, tag := "", pkgPath := "runtime", byteOffset := 8 }, { name := "signed", type := 4, offset := 2, embedded := Bool.false, tag := "", pkgPath := "runtime", byteOffset := 16 }, { name := "code", type := 6, offset := 3, embedded := Bool.false, tag := "", pkgPath := "runtime", byteOffset := 17 }]) 4 (Go.Value.agg #[Go.Value.int Go.IntKind.i64 0, Go.Value.int Go.IntKind.i64 0, Go.Value.bool Bool.false, Go.Value.int Go.IntKind.u8 0]) true := ⟨Tryd.underlying7, Tryd.sizeOf7, Tryd.zeroValue7, Tryd.isAgg7⟩
instance : SP Go.Proofs.Tryd.prog 7 #[{ name := "x", type := 2, offset := 0, embedded := Bool.false, tag := "", pkgPath := "runtime", byteOffset := 0 }, { name := "y", type := 3, offset := 1, embedded := Bool.false, tag := "", pkgPath := "runtime", byteOffset := 8 }, { name := "signed", type := 4, offset := 2, embedded := Bool.false, tag := "", pkgPath := "runtime", byteOffset := 16 }, { name := "code", type := 6, offset := 3, embedded := Bool.false, tag := "", pkgPath := "runtime", byteOffset := 17 }] (List.toArray [(0, 1), (1, 1), (2, 1), (3, 1)]) := ⟨Tryd.underlying7, fun _ => by kernel_rfl⟩
instance : FA Go.Proofs.Tryd.prog 7 0 0 := ⟨fun _ _ _ => by kernel_rfl⟩
instance : FA Go.Proofs.Tryd.prog 7 1 1 := ⟨fun _ _ _ => by kernel_rfl⟩
instance : FA Go.Proofs.Tryd.prog 7 2 2 := ⟨fun _ _ _ => by kernel_rfl⟩
instance : FA Go.Proofs.Tryd.prog 7 3 3 := ⟨fun _ _ _ => by kernel_rfl⟩
instance : TI Go.Proofs.Tryd.prog 8 (Go.TypeDesc.struct #[{ name := "x", type := 2, offset := 0, embedded := Bool.false, tag := "", pkgPath := "runtime", byteOffset := 0 }, { name := "y", type := 3, offset := 1, embedded := Bool.false, tag := "", pkgPath := "runtime", byteOffset := 8 }, { name := "signed", type := 4, offset := 2, embedded := Bool.false, tag := "", pkgPath := "runtime", byteOffset := 16 }, { name := "code", type := 6, offset := 3, embedded := Bool.false, tag := "", pkgPath := "runtime", byteOffset := 17 }]) 4 (Go.Value.agg #[Go.Value.int Go.IntKind.i64 0, Go.Value.int Go.IntKind.i64 0, Go.Value.bool Bool.false, Go.Value.int Go.IntKind.u8 0]) true := ⟨Tryd.underlying8, Tryd.sizeOf8, Tryd.zeroValue8, Tryd.isAgg8⟩
instance : SP Go.Proofs.Tryd.prog 8 #[{ name := "x", type := 2, offset := 0, embedded := Bool.false, tag := "", pkgPath := "runtime", byteOffset := 0 }, { name := "y", type := 3, offset := 1, embedded := Bool.false, tag := "", pkgPath := "runtime", byteOffset := 8 }, { name := "signed", type := 4, offset := 2, embedded := Bool.false, tag := "", pkgPath := "runtime", byteOffset := 16 }, { name := "code", type := 6, offset := 3, embedded := Bool.false, tag := "", pkgPath := "runtime", byteOffset := 17 }] (List.toArray [(0, 1), (1, 1), (2, 1), (3, 1)]) := ⟨Tryd.underlying8, fun _ => by kernel_rfl⟩
instance : FA Go.Proofs.Tryd.prog 8 0 0 := ⟨fun _ _ _ => by kernel_rfl⟩
instance : FA Go.Proofs.Tryd.prog 8 1 1 := ⟨fun _ _ _ => by kernel_rfl⟩
instance : FA Go.Proofs.Tryd.prog 8 2 2 := ⟨fun _ _ _ => by kernel_rfl⟩
instance : FA Go.Proofs.Tryd.prog 8 3 3 := ⟨fun _ _ _ => by kernel_rfl⟩
instance : TI Go.Proofs.Tryd.prog 9 Go.TypeDesc.string 1 (Go.Value.string { data := #[] }) false := ⟨Tryd.underlying9, Tryd.sizeOf9, Tryd.zeroValue9, Tryd.isAgg9⟩
instance : TI Go.Proofs.Tryd.prog 10 Go.TypeDesc.string 1 (Go.Value.string { data := #[] }) false := ⟨Tryd.underlying10, Tryd.sizeOf10, Tryd.zeroValue10, Tryd.isAgg10⟩
instance : TI Go.Proofs.Tryd.prog 11 Go.TypeDesc.string 1 (Go.Value.string { data := #[] }) false := ⟨Tryd.underlying11, Tryd.sizeOf11, Tryd.zeroValue11, Tryd.isAgg11⟩
instance : TI Go.Proofs.Tryd.prog 12 (Go.TypeDesc.int Go.IntKind.u64) 1 (Go.Value.int Go.IntKind.u64 0) false := ⟨Tryd.underlying12, Tryd.sizeOf12, Tryd.zeroValue12, Tryd.isAgg12⟩
instance : TI Go.Proofs.Tryd.prog 13 (Go.TypeDesc.struct #[{ name := "msg", type := 9, offset := 0, embedded := Bool.false, tag := "", pkgPath := "runtime", byteOffset := 0 }, { name := "addr", type := 12, offset := 1, embedded := Bool.false, tag := "", pkgPath := "runtime", byteOffset := 16 }]) 2 (Go.Value.agg #[Go.Value.string { data := #[] }, Go.Value.int Go.IntKind.u64 0]) true := ⟨Tryd.underlying13, Tryd.sizeOf13, Tryd.zeroValue13, Tryd.isAgg13⟩
instance : SP Go.Proofs.Tryd.prog 13 #[{ name := "msg", type := 9, offset := 0, embedded := Bool.false, tag := "", pkgPath := "runtime", byteOffset := 0 }, { name := "addr", type := 12, offset := 1, embedded := Bool.false, tag := "", pkgPath := "runtime", byteOffset := 16 }] (List.toArray [(0, 1), (1, 1)]) := ⟨Tryd.underlying13, fun _ => by kernel_rfl⟩
instance : FA Go.Proofs.Tryd.prog 13 0 0 := ⟨fun _ _ _ => by kernel_rfl⟩
instance : FA Go.Proofs.Tryd.prog 13 1 1 := ⟨fun _ _ _ => by kernel_rfl⟩
instance : TI Go.Proofs.Tryd.prog 14 (Go.TypeDesc.struct #[{ name := "msg", type := 9, offset := 0, embedded := Bool.false, tag := "", pkgPath := "runtime", byteOffset := 0 }, { name := "addr", type := 12, offset := 1, embedded := Bool.false, tag := "", pkgPath := "runtime", byteOffset := 16 }]) 2 (Go.Value.agg #[Go.Value.string { data := #[] }, Go.Value.int Go.IntKind.u64 0]) true := ⟨Tryd.underlying14, Tryd.sizeOf14, Tryd.zeroValue14, Tryd.isAgg14⟩
instance : SP Go.Proofs.Tryd.prog 14 #[{ name := "msg", type := 9, offset := 0, embedded := Bool.false, tag := "", pkgPath := "runtime", byteOffset := 0 }, { name := "addr", type := 12, offset := 1, embedded := Bool.false, tag := "", pkgPath := "runtime", byteOffset := 16 }] (List.toArray [(0, 1), (1, 1)]) := ⟨Tryd.underlying14, fun _ => by kernel_rfl⟩
instance : FA Go.Proofs.Tryd.prog 14 0 0 := ⟨fun _ _ _ => by kernel_rfl⟩
instance : FA Go.Proofs.Tryd.prog 14 1 1 := ⟨fun _ _ _ => by kernel_rfl⟩
instance : TI Go.Proofs.Tryd.prog 15 (Go.TypeDesc.pointer 177) 1 (Go.Value.pointer Option.none) false := ⟨Tryd.underlying15, Tryd.sizeOf15, Tryd.zeroValue15, Tryd.isAgg15⟩
instance : TI Go.Proofs.Tryd.prog 16 (Go.TypeDesc.pointer 180) 1 (Go.Value.pointer Option.none) false := ⟨Tryd.underlying16, Tryd.sizeOf16, Tryd.zeroValue16, Tryd.isAgg16⟩
instance : TI Go.Proofs.Tryd.prog 17 (Go.TypeDesc.pointer 188) 1 (Go.Value.pointer Option.none) false := ⟨Tryd.underlying17, Tryd.sizeOf17, Tryd.zeroValue17, Tryd.isAgg17⟩
instance : TI Go.Proofs.Tryd.prog 18 (Go.TypeDesc.struct #[{ name := "typ", type := 17, offset := 0, embedded := Bool.false, tag := "", pkgPath := "internal/runtime/maps", byteOffset := 0 }]) 1 (Go.Value.agg #[Go.Value.pointer Option.none]) true := ⟨Tryd.underlying18, Tryd.sizeOf18, Tryd.zeroValue18, Tryd.isAgg18⟩
instance : SP Go.Proofs.Tryd.prog 18 #[{ name := "typ", type := 17, offset := 0, embedded := Bool.false, tag := "", pkgPath := "internal/runtime/maps", byteOffset := 0 }] (List.toArray [(0, 1)]) := ⟨Tryd.underlying18, fun _ => by kernel_rfl⟩
instance : FA Go.Proofs.Tryd.prog 18 0 0 := ⟨fun _ _ _ => by kernel_rfl⟩
instance : TI Go.Proofs.Tryd.prog 19 (Go.TypeDesc.struct #[{ name := "typ", type := 17, offset := 0, embedded := Bool.false, tag := "", pkgPath := "internal/runtime/maps", byteOffset := 0 }]) 1 (Go.Value.agg #[Go.Value.pointer Option.none]) true := ⟨Tryd.underlying19, Tryd.sizeOf19, Tryd.zeroValue19, Tryd.isAgg19⟩
instance : SP Go.Proofs.Tryd.prog 19 #[{ name := "typ", type := 17, offset := 0, embedded := Bool.false, tag := "", pkgPath := "internal/runtime/maps", byteOffset := 0 }] (List.toArray [(0, 1)]) := ⟨Tryd.underlying19, fun _ => by kernel_rfl⟩
instance : FA Go.Proofs.Tryd.prog 19 0 0 := ⟨fun _ _ _ => by kernel_rfl⟩
instance : TI Go.Proofs.Tryd.prog 20 (Go.TypeDesc.interface #[]) 1 Go.Value.nilIface false := ⟨Tryd.underlying20, Tryd.sizeOf20, Tryd.zeroValue20, Tryd.isAgg20⟩
instance : TI Go.Proofs.Tryd.prog 21 (Go.TypeDesc.int Go.IntKind.i32) 1 (Go.Value.int Go.IntKind.i32 0) false := ⟨Tryd.underlying21, Tryd.sizeOf21, Tryd.zeroValue21, Tryd.isAgg21⟩
instance : TI Go.Proofs.Tryd.prog 22 (Go.TypeDesc.slice 3) 1 (Go.Value.slice Option.none 0 0) false := ⟨Tryd.underlying22, Tryd.sizeOf22, Tryd.zeroValue22, Tryd.isAgg22⟩
instance : TI Go.Proofs.Tryd.prog 23 (Go.TypeDesc.slice 9) 1 (Go.Value.slice Option.none 0 0) false := ⟨Tryd.underlying23, Tryd.sizeOf23, Tryd.zeroValue23, Tryd.isAgg23⟩
instance : TI Go.Proofs.Tryd.prog 24 (Go.TypeDesc.struct #[{ name := "N", type := 22, offset := 0, embedded := Bool.false, tag := "", pkgPath := "", byteOffset := 0 }, { name := "Words", type := 23, offset := 1, embedded := Bool.false, tag := "", pkgPath := "", byteOffset := 24 }]) 2 (Go.Value.agg #[Go.Value.slice Option.none 0 0, Go.Value.slice Option.none 0 0]) true := ⟨Tryd.underlying24, Tryd.sizeOf24, Tryd.zeroValue24, Tryd.isAgg24⟩
instance : SP Go.Proofs.Tryd.prog 24 #[{ name := "N", type := 22, offset := 0, embedded := Bool.false, tag := "", pkgPath := "", byteOffset := 0 }, { name := "Words", type := 23, offset := 1, embedded := Bool.false, tag := "", pkgPath := "", byteOffset := 24 }] (List.toArray [(0, 1), (1, 1)]) := ⟨Tryd.underlying24, fun _ => by kernel_rfl⟩
instance : FA Go.Proofs.Tryd.prog 24 0 0 := ⟨fun _ _ _ => by kernel_rfl⟩
instance : FA Go.Proofs.Tryd.prog 24 1 1 := ⟨fun _ _ _ => by kernel_rfl⟩
instance : TI Go.Proofs.Tryd.prog 25 (Go.TypeDesc.struct #[{ name := "N", type := 22, offset := 0, embedded := Bool.false, tag := "", pkgPath := "", byteOffset := 0 }, { name := "Words", type := 23, offset := 1, embedded := Bool.false, tag := "", pkgPath := "", byteOffset := 24 }]) 2 (Go.Value.agg #[Go.Value.slice Option.none 0 0, Go.Value.slice Option.none 0 0]) true := ⟨Tryd.underlying25, Tryd.sizeOf25, Tryd.zeroValue25, Tryd.isAgg25⟩
instance : SP Go.Proofs.Tryd.prog 25 #[{ name := "N", type := 22, offset := 0, embedded := Bool.false, tag := "", pkgPath := "", byteOffset := 0 }, { name := "Words", type := 23, offset := 1, embedded := Bool.false, tag := "", pkgPath := "", byteOffset := 24 }] (List.toArray [(0, 1), (1, 1)]) := ⟨Tryd.underlying25, fun _ => by kernel_rfl⟩
instance : FA Go.Proofs.Tryd.prog 25 0 0 := ⟨fun _ _ _ => by kernel_rfl⟩
instance : FA Go.Proofs.Tryd.prog 25 1 1 := ⟨fun _ _ _ => by kernel_rfl⟩
instance : TI Go.Proofs.Tryd.prog 26 (Go.TypeDesc.interface #[]) 1 Go.Value.nilIface false := ⟨Tryd.underlying26, Tryd.sizeOf26, Tryd.zeroValue26, Tryd.isAgg26⟩
instance : TI Go.Proofs.Tryd.prog 27 (Go.TypeDesc.slice 29) 1 (Go.Value.slice Option.none 0 0) false := ⟨Tryd.underlying27, Tryd.sizeOf27, Tryd.zeroValue27, Tryd.isAgg27⟩
instance : TI Go.Proofs.Tryd.prog 28 (Go.TypeDesc.struct #[{ name := "Kind", type := 3, offset := 0, embedded := Bool.false, tag := "", pkgPath := "", byteOffset := 0 }, { name := "S", type := 9, offset := 1, embedded := Bool.false, tag := "", pkgPath := "", byteOffset := 8 }, { name := "N", type := 3, offset := 2, embedded := Bool.false, tag := "", pkgPath := "", byteOffset := 24 }, { name := "K", type := 27, offset := 3, embedded := Bool.false, tag := "", pkgPath := "", byteOffset := 32 }]) 4 (Go.Value.agg #[Go.Value.int Go.IntKind.i64 0, Go.Value.string { data := #[] }, Go.Value.int Go.IntKind.i64 0, Go.Value.slice Option.none 0 0]) true := ⟨Tryd.underlying28, Tryd.sizeOf28, Tryd.zeroValue28, Tryd.isAgg28⟩
instance : SP Go.Proofs.Tryd.prog 28 #[{ name := "Kind", type := 3, offset := 0, embedded := Bool.false, tag := "", pkgPath := "", byteOffset := 0 }, { name := "S", type := 9, offset := 1, embedded := Bool.false, tag := "", pkgPath := "", byteOffset := 8 }, { name := "N", type := 3, offset := 2, embedded := Bool.false, tag := "", pkgPath := "", byteOffset := 24 }, { name := "K", type := 27, offset := 3, embedded := Bool.false, tag := "", pkgPath := "", byteOffset := 32 }] (List.toArray [(0, 1), (1, 1), (2, 1), (3, 1)]) := ⟨Tryd.underlying28, fun _ => by kernel_rfl⟩
instance : FA Go.Proofs.Tryd.prog 28 0 0 := ⟨fun _ _ _ => by kernel_rfl⟩
instance : FA Go.Proofs.Tryd.prog 28 1 1 := ⟨fun _ _ _ => by kernel_rfl⟩
instance : FA Go.Proofs.Tryd.prog 28 2 2 := ⟨fun _ _ _ => by kernel_rfl⟩
instance : FA Go.Proofs.Tryd.prog 28 3 3 := ⟨fun _ _ _ => by kernel_rfl⟩
instance : TI Go.Proofs.Tryd.prog 29 (Go.TypeDesc.struct #[{ name := "Kind", type := 3, offset := 0, embedded := Bool.false, tag := "", pkgPath := "", byteOffset := 0 }, { name := "S", type := 9, offset := 1, embedded := Bool.false, tag := "", pkgPath := "", byteOffset := 8 }, { name := "N", type := 3, offset := 2, embedded := Bool.false, tag := "", pkgPath := "", byteOffset := 24 }, { name := "K", type := 27, offset := 3, embedded := Bool.false, tag := "", pkgPath := "", byteOffset := 32 }]) 4 (Go.Value.agg #[Go.Value.int Go.IntKind.i64 0, Go.Value.string { data := #[] }, Go.Value.int Go.IntKind.i64 0, Go.Value.slice Option.none 0 0]) true := ⟨Tryd.underlying29, Tryd.sizeOf29, Tryd.zeroValue29, Tryd.isAgg29⟩
instance : SP Go.Proofs.Tryd.prog 29 #[{ name := "Kind", type := 3, offset := 0, embedded := Bool.false, tag := "", pkgPath := "", byteOffset := 0 }, { name := "S", type := 9, offset := 1, embedded := Bool.false, tag := "", pkgPath := "", byteOffset := 8 }, { name := "N", type := 3, offset := 2, embedded := Bool.false, tag := "", pkgPath := "", byteOffset := 24 }, { name := "K", type := 27, offset := 3, embedded := Bool.false, tag := "", pkgPath := "", byteOffset := 32 }] (List.toArray [(0, 1), (1, 1), (2, 1), (3, 1)]) := ⟨Tryd.underlying29, fun _ => by kernel_rfl⟩
instance : FA Go.Proofs.Tryd.prog 29 0 0 := ⟨fun _ _ _ => by kernel_rfl⟩
instance : FA Go.Proofs.Tryd.prog 29 1 1 := ⟨fun _ _ _ => by kernel_rfl⟩
instance : FA Go.Proofs.Tryd.prog 29 2 2 := ⟨fun _ _ _ => by kernel_rfl⟩
instance : FA Go.Proofs.Tryd.prog 29 3 3 := ⟨fun _ _ _ => by kernel_rfl⟩
instance : TI Go.Proofs.Tryd.prog 30 (Go.TypeDesc.tuple #[26, 29]) 1 (Go.Value.tuple #[Go.Value.nilIface, Go.Value.agg #[Go.Value.int Go.IntKind.i64 0, Go.Value.string { data := #[] }, Go.Value.int Go.IntKind.i64 0, Go.Value.slice Option.none 0 0]]) false := ⟨Tryd.underlying30, Tryd.sizeOf30, Tryd.zeroValue30, Tryd.isAgg30⟩
instance : TI Go.Proofs.Tryd.prog 31 (Go.TypeDesc.func #[25, 3, 3, 3, 9, 3] #[26, 29] Bool.false) 1 Go.Value.nilFunc false := ⟨Tryd.underlying31, Tryd.sizeOf31, Tryd.zeroValue31, Tryd.isAgg31⟩
instance : TI Go.Proofs.Tryd.prog 32 (Go.TypeDesc.interface #[]) 1 Go.Value.nilIface false := ⟨Tryd.underlying32, Tryd.sizeOf32, Tryd.zeroValue32, Tryd.isAgg32⟩
instance : TI Go.Proofs.Tryd.prog 33 (Go.TypeDesc.tuple #[32, 29]) 1 (Go.Value.tuple #[Go.Value.nilIface, Go.Value.agg #[Go.Value.int Go.IntKind.i64 0, Go.Value.string { data := #[] }, Go.Value.int Go.IntKind.i64 0, Go.Value.slice Option.none 0 0]]) false := ⟨Tryd.underlying33, Tryd.sizeOf33, Tryd.zeroValue33, Tryd.isAgg33⟩
instance : TI Go.Proofs.Tryd.prog 34 (Go.TypeDesc.func #[25, 3, 3, 3, 9, 3] #[32, 29] Bool.false) 1 Go.Value.nilFunc false := ⟨Tryd.underlying34, Tryd.sizeOf34, Tryd.zeroValue34, Tryd.isAgg34⟩
instance : TI Go.Proofs.Tryd.prog 35 (Go.TypeDesc.int Go.IntKind.i64) 1 (Go.Value.int Go.IntKind.i64 0) false := ⟨Tryd.underlying35, Tryd.sizeOf35, Tryd.zeroValue35, Tryd.isAgg35⟩
instance : TI Go.Proofs.Tryd.prog 36 (Go.TypeDesc.tuple #[9, 35]) 1 (Go.Value.tuple #[Go.Value.string { data := #[] }, Go.Value.int Go.IntKind.i64 0]) false := ⟨Tryd.underlying36, Tryd.sizeOf36, Tryd.zeroValue36, Tryd.isAgg36⟩
instance : TI Go.Proofs.Tryd.prog 37 (Go.TypeDesc.func #[26] #[9, 35] Bool.false) 1 Go.Value.nilFunc false := ⟨Tryd.underlying37, Tryd.sizeOf37, Tryd.zeroValue37, Tryd.isAgg37⟩
instance : TI Go.Proofs.Tryd.prog 38 (Go.TypeDesc.func #[29, 4] #[9, 35] Bool.false) 1 Go.Value.nilFunc false := ⟨Tryd.underlying38, Tryd.sizeOf38, Tryd.zeroValue38, Tryd.isAgg38⟩
instance : TI Go.Proofs.Tryd.prog 39 (Go.TypeDesc.func #[32] #[9, 35] Bool.false) 1 Go.Value.nilFunc false := ⟨Tryd.underlying39, Tryd.sizeOf39, Tryd.zeroValue39, Tryd.isAgg39⟩
instance : TI Go.Proofs.Tryd.prog 40 (Go.TypeDesc.func #[] #[4] Bool.false) 1 Go.Value.nilFunc false := ⟨Tryd.underlying40, Tryd.sizeOf40, Tryd.zeroValue40, Tryd.isAgg40⟩
instance : TI Go.Proofs.Tryd.prog 41 (Go.TypeDesc.func #[25, 3, 3, 3, 9, 3] #[4] Bool.false) 1 Go.Value.nilFunc false := ⟨Tryd.underlying41, Tryd.sizeOf41, Tryd.zeroValue41, Tryd.isAgg41⟩
instance : TI Go.Proofs.Tryd.prog 42 (Go.TypeDesc.func #[25] #[29] Bool.false) 1 Go.Value.nilFunc false := ⟨Tryd.underlying42, Tryd.sizeOf42, Tryd.zeroValue42, Tryd.isAgg42⟩
instance : TI Go.Proofs.Tryd.prog 43 (Go.TypeDesc.func #[29, 3, 3, 3, 9] #[29] Bool.false) 1 Go.Value.nilFunc false := ⟨Tryd.underlying43, Tryd.sizeOf43, Tryd.zeroValue43, Tryd.isAgg43⟩
instance : TI Go.Proofs.Tryd.prog 44 (Go.TypeDesc.func #[29] #[26] Bool.false) 1 Go.Value.nilFunc false := ⟨Tryd.underlying44, Tryd.sizeOf44, Tryd.zeroValue44, Tryd.isAgg44⟩
instance : TI Go.Proofs.Tryd.prog 45 (Go.TypeDesc.func #[3, 3] #[3] Bool.false) 1 Go.Value.nilFunc false := ⟨Tryd.underlying45, Tryd.sizeOf45, Tryd.zeroValue45, Tryd.isAgg45⟩
instance : TI Go.Proofs.Tryd.prog 46 (Go.TypeDesc.func #[3] #[20] Bool.false) 1 Go.Value.nilFunc false := ⟨Tryd.underlying46, Tryd.sizeOf46, Tryd.zeroValue46, Tryd.isAgg46⟩
instance : TI Go.Proofs.Tryd.prog 47 (Go.TypeDesc.struct #[{ name := "L", type := 26, offset := 0, embedded := Bool.false, tag := "", pkgPath := "", byteOffset := 0 }, { name := "R", type := 26, offset := 1, embedded := Bool.false, tag := "", pkgPath := "", byteOffset := 16 }]) 2 (Go.Value.agg #[Go.Value.nilIface, Go.Value.nilIface]) true := ⟨Tryd.underlying47, Tryd.sizeOf47, Tryd.zeroValue47, Tryd.isAgg47⟩
instance : SP Go.Proofs.Tryd.prog 47 #[{ name := "L", type := 26, offset := 0, embedded := Bool.false, tag := "", pkgPath := "", byteOffset := 0 }, { name := "R", type := 26, offset := 1, embedded := Bool.false, tag := "", pkgPath := "", byteOffset := 16 }] (List.toArray [(0, 1), (1, 1)]) := ⟨Tryd.underlying47, fun _ => by kernel_rfl⟩
instance : FA Go.Proofs.Tryd.prog 47 0 0 := ⟨fun _ _ _ => by kernel_rfl⟩
instance : FA Go.Proofs.Tryd.prog 47 1 1 := ⟨fun _ _ _ => by kernel_rfl⟩
instance : TI Go.Proofs.Tryd.prog 48 (Go.TypeDesc.struct #[{ name := "L", type := 26, offset := 0, embedded := Bool.false, tag := "", pkgPath := "", byteOffset := 0 }, { name := "R", type := 26, offset := 1, embedded := Bool.false, tag := "", pkgPath := "", byteOffset := 16 }]) 2 (Go.Value.agg #[Go.Value.nilIface, Go.Value.nilIface]) true := ⟨Tryd.underlying48, Tryd.sizeOf48, Tryd.zeroValue48, Tryd.isAgg48⟩
instance : SP Go.Proofs.Tryd.prog 48 #[{ name := "L", type := 26, offset := 0, embedded := Bool.false, tag := "", pkgPath := "", byteOffset := 0 }, { name := "R", type := 26, offset := 1, embedded := Bool.false, tag := "", pkgPath := "", byteOffset := 16 }] (List.toArray [(0, 1), (1, 1)]) := ⟨Tryd.underlying48, fun _ => by kernel_rfl⟩
instance : FA Go.Proofs.Tryd.prog 48 0 0 := ⟨fun _ _ _ => by kernel_rfl⟩
instance : FA Go.Proofs.Tryd.prog 48 1 1 := ⟨fun _ _ _ => by kernel_rfl⟩
instance : TI Go.Proofs.Tryd.prog 49 (Go.TypeDesc.struct #[{ name := "By", type := 32, offset := 0, embedded := Bool.false, tag := "", pkgPath := "", byteOffset := 0 }, { name := "Of", type := 26, offset := 1, embedded := Bool.false, tag := "", pkgPath := "", byteOffset := 16 }]) 2 (Go.Value.agg #[Go.Value.nilIface, Go.Value.nilIface]) true := ⟨Tryd.underlying49, Tryd.sizeOf49, Tryd.zeroValue49, Tryd.isAgg49⟩
instance : SP Go.Proofs.Tryd.prog 49 #[{ name := "By", type := 32, offset := 0, embedded := Bool.false, tag := "", pkgPath := "", byteOffset := 0 }, { name := "Of", type := 26, offset := 1, embedded := Bool.false, tag := "", pkgPath := "", byteOffset := 16 }] (List.toArray [(0, 1), (1, 1)]) := ⟨Tryd.underlying49, fun _ => by kernel_rfl⟩
instance : FA Go.Proofs.Tryd.prog 49 0 0 := ⟨fun _ _ _ => by kernel_rfl⟩
instance : FA Go.Proofs.Tryd.prog 49 1 1 := ⟨fun _ _ _ => by kernel_rfl⟩
instance : TI Go.Proofs.Tryd.prog 50 (Go.TypeDesc.struct #[{ name := "By", type := 32, offset := 0, embedded := Bool.false, tag := "", pkgPath := "", byteOffset := 0 }, { name := "Of", type := 26, offset := 1, embedded := Bool.false, tag := "", pkgPath := "", byteOffset := 16 }]) 2 (Go.Value.agg #[Go.Value.nilIface, Go.Value.nilIface]) true := ⟨Tryd.underlying50, Tryd.sizeOf50, Tryd.zeroValue50, Tryd.isAgg50⟩
instance : SP Go.Proofs.Tryd.prog 50 #[{ name := "By", type := 32, offset := 0, embedded := Bool.false, tag := "", pkgPath := "", byteOffset := 0 }, { name := "Of", type := 26, offset := 1, embedded := Bool.false, tag := "", pkgPath := "", byteOffset := 16 }] (List.toArray [(0, 1), (1, 1)]) := ⟨Tryd.underlying50, fun _ => by kernel_rfl⟩
instance : FA Go.Proofs.Tryd.prog 50 0 0 := ⟨fun _ _ _ => by kernel_rfl⟩
instance : FA Go.Proofs.Tryd.prog 50 1 1 := ⟨fun _ _ _ => by kernel_rfl⟩
instance : TI Go.Proofs.Tryd.prog 51 (Go.TypeDesc.func #[26] #[29] Bool.false) 1 Go.Value.nilFunc false := ⟨Tryd.underlying51, Tryd.sizeOf51, Tryd.zeroValue51, Tryd.isAgg51⟩
instance : TI Go.Proofs.Tryd.prog 52 (Go.TypeDesc.func #[29] #[32] Bool.false) 1 Go.Value.nilFunc false := ⟨Tryd.underlying52, Tryd.sizeOf52, Tryd.zeroValue52, Tryd.isAgg52⟩
instance : TI Go.Proofs.Tryd.prog 53 (Go.TypeDesc.struct #[{ name := "L", type := 32, offset := 0, embedded := Bool.false, tag := "", pkgPath := "", byteOffset := 0 }, { name := "R", type := 32, offset := 1, embedded := Bool.false, tag := "", pkgPath := "", byteOffset := 16 }]) 2 (Go.Value.agg #[Go.Value.nilIface, Go.Value.nilIface]) true := ⟨Tryd.underlying53, Tryd.sizeOf53, Tryd.zeroValue53, Tryd.isAgg53⟩
instance : SP Go.Proofs.Tryd.prog 53 #[{ name := "L", type := 32, offset := 0, embedded := Bool.false, tag := "", pkgPath := "", byteOffset := 0 }, { name := "R", type := 32, offset := 1, embedded := Bool.false, tag := "", pkgPath := "", byteOffset := 16 }] (List.toArray [(0, 1), (1, 1)]) := ⟨Tryd.underlying53, fun _ => by kernel_rfl⟩
instance : FA Go.Proofs.Tryd.prog 53 0 0 := ⟨fun _ _ _ => by kernel_rfl⟩
instance : FA Go.Proofs.Tryd.prog 53 1 1 := ⟨fun _ _ _ => by kernel_rfl⟩
instance : TI Go.Proofs.Tryd.prog 54 (Go.TypeDesc.struct #[{ name := "L", type := 32, offset := 0, embedded := Bool.false, tag := "", pkgPath := "", byteOffset := 0 }, { name := "R", type := 32, offset := 1, embedded := Bool.false, tag := "", pkgPath := "", byteOffset := 16 }]) 2 (Go.Value.agg #[Go.Value.nilIface, Go.Value.nilIface]) true := ⟨Tryd.underlying54, Tryd.sizeOf54, Tryd.zeroValue54, Tryd.isAgg54⟩
instance : SP Go.Proofs.Tryd.prog 54 #[{ name := "L", type := 32, offset := 0, embedded := Bool.false, tag := "", pkgPath := "", byteOffset := 0 }, { name := "R", type := 32, offset := 1, embedded := Bool.false, tag := "", pkgPath := "", byteOffset := 16 }] (List.toArray [(0, 1), (1, 1)]) := ⟨Tryd.underlying54, fun _ => by kernel_rfl⟩
instance : FA Go.Proofs.Tryd.prog 54 0 0 := ⟨fun _ _ _ => by kernel_rfl⟩
instance : FA Go.Proofs.Tryd.prog 54 1 1 := ⟨fun _ _ _ => by kernel_rfl⟩
instance : TI Go.Proofs.Tryd.prog 55 (Go.TypeDesc.func #[32] #[29] Bool.false) 1 Go.Value.nilFunc false := ⟨Tryd.underlying55, Tryd.sizeOf55, Tryd.zeroValue55, Tryd.isAgg55⟩
instance : TI Go.Proofs.Tryd.prog 56 (Go.TypeDesc.func #[26] #[35] Bool.false) 1 Go.Value.nilFunc false := ⟨Tryd.underlying56, Tryd.sizeOf56, Tryd.zeroValue56, Tryd.isAgg56⟩
instance : TI Go.Proofs.Tryd.prog 57 (Go.TypeDesc.func #[9] #[9, 35] Bool.false) 1 Go.Value.nilFunc false := ⟨Tryd.underlying57, Tryd.sizeOf57, Tryd.zeroValue57, Tryd.isAgg57⟩
instance : TI Go.Proofs.Tryd.prog 58 (Go.TypeDesc.func #[26] #[9] Bool.false) 1 Go.Value.nilFunc false := ⟨Tryd.underlying58, Tryd.sizeOf58, Tryd.zeroValue58, Tryd.isAgg58⟩
instance : TI Go.Proofs.Tryd.prog 59 (Go.TypeDesc.func #[29, 4] #[35] Bool.false) 1 Go.Value.nilFunc false := ⟨Tryd.underlying59, Tryd.sizeOf59, Tryd.zeroValue59, Tryd.isAgg59⟩
instance : TI Go.Proofs.Tryd.prog 60 (Go.TypeDesc.func #[29] #[9] Bool.false) 1 Go.Value.nilFunc false := ⟨Tryd.underlying60, Tryd.sizeOf60, Tryd.zeroValue60, Tryd.isAgg60⟩
instance : TI Go.Proofs.Tryd.prog 61 (Go.TypeDesc.func #[32] #[35] Bool.false) 1 Go.Value.nilFunc false := ⟨Tryd.underlying61, Tryd.sizeOf61, Tryd.zeroValue61, Tryd.isAgg61⟩
instance : TI Go.Proofs.Tryd.prog 62 (Go.TypeDesc.func #[32] #[9] Bool.false) 1 Go.Value.nilFunc false := ⟨Tryd.underlying62, Tryd.sizeOf62, Tryd.zeroValue62, Tryd.isAgg62⟩
instance : TI Go.Proofs.Tryd.prog 63 (Go.TypeDesc.struct #[{ name := "N", type := 3, offset := 0, embedded := Bool.false, tag := "", pkgPath := "", byteOffset := 0 }]) 1 (Go.Value.agg #[Go.Value.int Go.IntKind.i64 0]) true := ⟨Tryd.underlying63, Tryd.sizeOf63, Tryd.zeroValue63, Tryd.isAgg63⟩
instance : SP Go.Proofs.Tryd.prog 63 #[{ name := "N", type := 3, offset := 0, embedded := Bool.false, tag := "", pkgPath := "", byteOffset := 0 }] (List.toArray [(0, 1)]) := ⟨Tryd.underlying63, fun _ => by kernel_rfl⟩
instance : FA Go.Proofs.Tryd.prog 63 0 0 := ⟨fun _ _ _ => by kernel_rfl⟩
instance : TI Go.Proofs.Tryd.prog 64 (Go.TypeDesc.struct #[{ name := "N", type := 3, offset := 0, embedded := Bool.false, tag := "", pkgPath := "", byteOffset := 0 }]) 1 (Go.Value.agg #[Go.Value.int Go.IntKind.i64 0]) true := ⟨Tryd.underlying64, Tryd.sizeOf64, Tryd.zeroValue64, Tryd.isAgg64⟩
instance : SP Go.Proofs.Tryd.prog 64 #[{ name := "N", type := 3, offset := 0, embedded := Bool.false, tag := "", pkgPath := "", byteOffset := 0 }] (List.toArray [(0, 1)]) := ⟨Tryd.underlying64, fun _ => by kernel_rfl⟩
instance : FA Go.Proofs.Tryd.prog 64 0 0 := ⟨fun _ _ _ => by kernel_rfl⟩
instance : TI Go.Proofs.Tryd.prog 65 (Go.TypeDesc.struct #[{ name := "Cur", type := 9, offset := 0, embedded := Bool.false, tag := "", pkgPath := "", byteOffset := 0 }]) 1 (Go.Value.agg #[Go.Value.string { data := #[] }]) true := ⟨Tryd.underlying65, Tryd.sizeOf65, Tryd.zeroValue65, Tryd.isAgg65⟩
instance : SP Go.Proofs.Tryd.prog 65 #[{ name := "Cur", type := 9, offset := 0, embedded := Bool.false, tag := "", pkgPath := "", byteOffset := 0 }] (List.toArray [(0, 1)]) := ⟨Tryd.underlying65, fun _ => by kernel_rfl⟩
instance : FA Go.Proofs.Tryd.prog 65 0 0 := ⟨fun _ _ _ => by kernel_rfl⟩
instance : TI Go.Proofs.Tryd.prog 66 (Go.TypeDesc.struct #[{ name := "Cur", type := 9, offset := 0, embedded := Bool.false, tag := "", pkgPath := "", byteOffset := 0 }]) 1 (Go.Value.agg #[Go.Value.string { data := #[] }]) true := ⟨Tryd.underlying66, Tryd.sizeOf66, Tryd.zeroValue66, Tryd.isAgg66⟩
instance : SP Go.Proofs.Tryd.prog 66 #[{ name := "Cur", type := 9, offset := 0, embedded := Bool.false, tag := "", pkgPath := "", byteOffset := 0 }] (List.toArray [(0, 1)]) := ⟨Tryd.underlying66, fun _ => by kernel_rfl⟩
instance : FA Go.Proofs.Tryd.prog 66 0 0 := ⟨fun _ _ _ => by kernel_rfl⟩
instance : TI Go.Proofs.Tryd.prog 67 (Go.TypeDesc.pointer 69) 1 (Go.Value.pointer Option.none) false := ⟨Tryd.underlying67, Tryd.sizeOf67, Tryd.zeroValue67, Tryd.isAgg67⟩
instance : TI Go.Proofs.Tryd.prog 68 (Go.TypeDesc.struct #[{ name := "p", type := 25, offset := 0, embedded := Bool.false, tag := "", pkgPath := "handfast/handfastplay", byteOffset := 0 }, { name := "i", type := 3, offset := 2, embedded := Bool.false, tag := "", pkgPath := "handfast/handfastplay", byteOffset := 48 }, { name := "left", type := 3, offset := 3, embedded := Bool.false, tag := "", pkgPath := "handfast/handfastplay", byteOffset := 56 }, { name := "label", type := 3, offset := 4, embedded := Bool.false, tag := "", pkgPath := "handfast/handfastplay", byteOffset := 64 }]) 5 (Go.Value.agg #[Go.Value.slice Option.none 0 0, Go.Value.slice Option.none 0 0, Go.Value.int Go.IntKind.i64 0, Go.Value.int Go.IntKind.i64 0, Go.Value.int Go.IntKind.i64 0]) true := ⟨Tryd.underlying68, Tryd.sizeOf68, Tryd.zeroValue68, Tryd.isAgg68⟩
instance : SP Go.Proofs.Tryd.prog 68 #[{ name := "p", type := 25, offset := 0, embedded := Bool.false, tag := "", pkgPath := "handfast/handfastplay", byteOffset := 0 }, { name := "i", type := 3, offset := 2, embedded := Bool.false, tag := "", pkgPath := "handfast/handfastplay", byteOffset := 48 }, { name := "left", type := 3, offset := 3, embedded := Bool.false, tag := "", pkgPath := "handfast/handfastplay", byteOffset := 56 }, { name := "label", type := 3, offset := 4, embedded := Bool.false, tag := "", pkgPath := "handfast/handfastplay", byteOffset := 64 }] (List.toArray [(0, 2), (2, 1), (3, 1), (4, 1)]) := ⟨Tryd.underlying68, fun _ => by kernel_rfl⟩
instance : FA Go.Proofs.Tryd.prog 68 0 0 := ⟨fun _ _ _ => by kernel_rfl⟩
instance : FA Go.Proofs.Tryd.prog 68 1 2 := ⟨fun _ _ _ => by kernel_rfl⟩
instance : FA Go.Proofs.Tryd.prog 68 2 3 := ⟨fun _ _ _ => by kernel_rfl⟩
instance : FA Go.Proofs.Tryd.prog 68 3 4 := ⟨fun _ _ _ => by kernel_rfl⟩
instance : TI Go.Proofs.Tryd.prog 69 (Go.TypeDesc.struct #[{ name := "p", type := 25, offset := 0, embedded := Bool.false, tag := "", pkgPath := "handfast/handfastplay", byteOffset := 0 }, { name := "i", type := 3, offset := 2, embedded := Bool.false, tag := "", pkgPath := "handfast/handfastplay", byteOffset := 48 }, { name := "left", type := 3, offset := 3, embedded := Bool.false, tag := "", pkgPath := "handfast/handfastplay", byteOffset := 56 }, { name := "label", type := 3, offset := 4, embedded := Bool.false, tag := "", pkgPath := "handfast/handfastplay", byteOffset := 64 }]) 5 (Go.Value.agg #[Go.Value.slice Option.none 0 0, Go.Value.slice Option.none 0 0, Go.Value.int Go.IntKind.i64 0, Go.Value.int Go.IntKind.i64 0, Go.Value.int Go.IntKind.i64 0]) true := ⟨Tryd.underlying69, Tryd.sizeOf69, Tryd.zeroValue69, Tryd.isAgg69⟩
instance : SP Go.Proofs.Tryd.prog 69 #[{ name := "p", type := 25, offset := 0, embedded := Bool.false, tag := "", pkgPath := "handfast/handfastplay", byteOffset := 0 }, { name := "i", type := 3, offset := 2, embedded := Bool.false, tag := "", pkgPath := "handfast/handfastplay", byteOffset := 48 }, { name := "left", type := 3, offset := 3, embedded := Bool.false, tag := "", pkgPath := "handfast/handfastplay", byteOffset := 56 }, { name := "label", type := 3, offset := 4, embedded := Bool.false, tag := "", pkgPath := "handfast/handfastplay", byteOffset := 64 }] (List.toArray [(0, 2), (2, 1), (3, 1), (4, 1)]) := ⟨Tryd.underlying69, fun _ => by kernel_rfl⟩
instance : FA Go.Proofs.Tryd.prog 69 0 0 := ⟨fun _ _ _ => by kernel_rfl⟩
instance : FA Go.Proofs.Tryd.prog 69 1 2 := ⟨fun _ _ _ => by kernel_rfl⟩
instance : FA Go.Proofs.Tryd.prog 69 2 3 := ⟨fun _ _ _ => by kernel_rfl⟩
instance : FA Go.Proofs.Tryd.prog 69 3 4 := ⟨fun _ _ _ => by kernel_rfl⟩
instance : TI Go.Proofs.Tryd.prog 70 (Go.TypeDesc.func #[3] #[29] Bool.false) 1 Go.Value.nilFunc false := ⟨Tryd.underlying70, Tryd.sizeOf70, Tryd.zeroValue70, Tryd.isAgg70⟩
instance : TI Go.Proofs.Tryd.prog 71 (Go.TypeDesc.tuple #[3, 3]) 1 (Go.Value.tuple #[Go.Value.int Go.IntKind.i64 0, Go.Value.int Go.IntKind.i64 0]) false := ⟨Tryd.underlying71, Tryd.sizeOf71, Tryd.zeroValue71, Tryd.isAgg71⟩
instance : TI Go.Proofs.Tryd.prog 72 (Go.TypeDesc.func #[29] #[3, 3] Bool.false) 1 Go.Value.nilFunc false := ⟨Tryd.underlying72, Tryd.sizeOf72, Tryd.zeroValue72, Tryd.isAgg72⟩
instance : TI Go.Proofs.Tryd.prog 73 (Go.TypeDesc.tuple #[29, 3]) 1 (Go.Value.tuple #[Go.Value.agg #[Go.Value.int Go.IntKind.i64 0, Go.Value.string { data := #[] }, Go.Value.int Go.IntKind.i64 0, Go.Value.slice Option.none 0 0], Go.Value.int Go.IntKind.i64 0]) false := ⟨Tryd.underlying73, Tryd.sizeOf73, Tryd.zeroValue73, Tryd.isAgg73⟩
instance : TI Go.Proofs.Tryd.prog 74 (Go.TypeDesc.func #[29, 3, 3, 3, 9] #[29, 3] Bool.false) 1 Go.Value.nilFunc false := ⟨Tryd.underlying74, Tryd.sizeOf74, Tryd.zeroValue74, Tryd.isAgg74⟩
instance : TI Go.Proofs.Tryd.prog 75 (Go.TypeDesc.struct #[]) 0 (Go.Value.agg #[]) true := ⟨Tryd.underlying75, Tryd.sizeOf75, Tryd.zeroValue75, Tryd.isAgg75⟩
instance : SP Go.Proofs.Tryd.prog 75 #[] (List.toArray []) := ⟨Tryd.underlying75, fun _ => by kernel_rfl⟩
instance : TI Go.Proofs.Tryd.prog 76 (Go.TypeDesc.struct #[]) 0 (Go.Value.agg #[]) true := ⟨Tryd.underlying76, Tryd.sizeOf76, Tryd.zeroValue76, Tryd.isAgg76⟩
instance : SP Go.Proofs.Tryd.prog 76 #[] (List.toArray []) := ⟨Tryd.underlying76, fun _ => by kernel_rfl⟩
instance : TI Go.Proofs.Tryd.prog 77 (Go.TypeDesc.struct #[{ name := "Of", type := 26, offset := 0, embedded := Bool.false, tag := "", pkgPath := "", byteOffset := 0 }]) 1 (Go.Value.agg #[Go.Value.nilIface]) true := ⟨Tryd.underlying77, Tryd.sizeOf77, Tryd.zeroValue77, Tryd.isAgg77⟩
instance : SP Go.Proofs.Tryd.prog 77 #[{ name := "Of", type := 26, offset := 0, embedded := Bool.false, tag := "", pkgPath := "", byteOffset := 0 }] (List.toArray [(0, 1)]) := ⟨Tryd.underlying77, fun _ => by kernel_rfl⟩
instance : FA Go.Proofs.Tryd.prog 77 0 0 := ⟨fun _ _ _ => by kernel_rfl⟩
instance : TI Go.Proofs.Tryd.prog 78 (Go.TypeDesc.struct #[{ name := "Of", type := 26, offset := 0, embedded := Bool.false, tag := "", pkgPath := "", byteOffset := 0 }]) 1 (Go.Value.agg #[Go.Value.nilIface]) true := ⟨Tryd.underlying78, Tryd.sizeOf78, Tryd.zeroValue78, Tryd.isAgg78⟩
instance : SP Go.Proofs.Tryd.prog 78 #[{ name := "Of", type := 26, offset := 0, embedded := Bool.false, tag := "", pkgPath := "", byteOffset := 0 }] (List.toArray [(0, 1)]) := ⟨Tryd.underlying78, fun _ => by kernel_rfl⟩
instance : FA Go.Proofs.Tryd.prog 78 0 0 := ⟨fun _ _ _ => by kernel_rfl⟩
instance : TI Go.Proofs.Tryd.prog 79 (Go.TypeDesc.struct #[{ name := "Label", type := 9, offset := 0, embedded := Bool.false, tag := "", pkgPath := "", byteOffset := 0 }, { name := "L", type := 26, offset := 1, embedded := Bool.false, tag := "", pkgPath := "", byteOffset := 16 }, { name := "R", type := 26, offset := 2, embedded := Bool.false, tag := "", pkgPath := "", byteOffset := 32 }]) 3 (Go.Value.agg #[Go.Value.string { data := #[] }, Go.Value.nilIface, Go.Value.nilIface]) true := ⟨Tryd.underlying79, Tryd.sizeOf79, Tryd.zeroValue79, Tryd.isAgg79⟩
instance : SP Go.Proofs.Tryd.prog 79 #[{ name := "Label", type := 9, offset := 0, embedded := Bool.false, tag := "", pkgPath := "", byteOffset := 0 }, { name := "L", type := 26, offset := 1, embedded := Bool.false, tag := "", pkgPath := "", byteOffset := 16 }, { name := "R", type := 26, offset := 2, embedded := Bool.false, tag := "", pkgPath := "", byteOffset := 32 }] (List.toArray [(0, 1), (1, 1), (2, 1)]) := ⟨Tryd.underlying79, fun _ => by kernel_rfl⟩
instance : FA Go.Proofs.Tryd.prog 79 0 0 := ⟨fun _ _ _ => by kernel_rfl⟩
instance : FA Go.Proofs.Tryd.prog 79 1 1 := ⟨fun _ _ _ => by kernel_rfl⟩
instance : FA Go.Proofs.Tryd.prog 79 2 2 := ⟨fun _ _ _ => by kernel_rfl⟩
instance : TI Go.Proofs.Tryd.prog 80 (Go.TypeDesc.struct #[{ name := "Label", type := 9, offset := 0, embedded := Bool.false, tag := "", pkgPath := "", byteOffset := 0 }, { name := "L", type := 26, offset := 1, embedded := Bool.false, tag := "", pkgPath := "", byteOffset := 16 }, { name := "R", type := 26, offset := 2, embedded := Bool.false, tag := "", pkgPath := "", byteOffset := 32 }]) 3 (Go.Value.agg #[Go.Value.string { data := #[] }, Go.Value.nilIface, Go.Value.nilIface]) true := ⟨Tryd.underlying80, Tryd.sizeOf80, Tryd.zeroValue80, Tryd.isAgg80⟩
instance : SP Go.Proofs.Tryd.prog 80 #[{ name := "Label", type := 9, offset := 0, embedded := Bool.false, tag := "", pkgPath := "", byteOffset := 0 }, { name := "L", type := 26, offset := 1, embedded := Bool.false, tag := "", pkgPath := "", byteOffset := 16 }, { name := "R", type := 26, offset := 2, embedded := Bool.false, tag := "", pkgPath := "", byteOffset := 32 }] (List.toArray [(0, 1), (1, 1), (2, 1)]) := ⟨Tryd.underlying80, fun _ => by kernel_rfl⟩
instance : FA Go.Proofs.Tryd.prog 80 0 0 := ⟨fun _ _ _ => by kernel_rfl⟩
instance : FA Go.Proofs.Tryd.prog 80 1 1 := ⟨fun _ _ _ => by kernel_rfl⟩
instance : FA Go.Proofs.Tryd.prog 80 2 2 := ⟨fun _ _ _ => by kernel_rfl⟩
instance : TI Go.Proofs.Tryd.prog 81 (Go.TypeDesc.struct #[{ name := "Day", type := 3, offset := 0, embedded := Bool.false, tag := "", pkgPath := "", byteOffset := 0 }, { name := "Of", type := 26, offset := 1, embedded := Bool.false, tag := "", pkgPath := "", byteOffset := 8 }]) 2 (Go.Value.agg #[Go.Value.int Go.IntKind.i64 0, Go.Value.nilIface]) true := ⟨Tryd.underlying81, Tryd.sizeOf81, Tryd.zeroValue81, Tryd.isAgg81⟩
instance : SP Go.Proofs.Tryd.prog 81 #[{ name := "Day", type := 3, offset := 0, embedded := Bool.false, tag := "", pkgPath := "", byteOffset := 0 }, { name := "Of", type := 26, offset := 1, embedded := Bool.false, tag := "", pkgPath := "", byteOffset := 8 }] (List.toArray [(0, 1), (1, 1)]) := ⟨Tryd.underlying81, fun _ => by kernel_rfl⟩
instance : FA Go.Proofs.Tryd.prog 81 0 0 := ⟨fun _ _ _ => by kernel_rfl⟩
instance : FA Go.Proofs.Tryd.prog 81 1 1 := ⟨fun _ _ _ => by kernel_rfl⟩
instance : TI Go.Proofs.Tryd.prog 82 (Go.TypeDesc.struct #[{ name := "Day", type := 3, offset := 0, embedded := Bool.false, tag := "", pkgPath := "", byteOffset := 0 }, { name := "Of", type := 26, offset := 1, embedded := Bool.false, tag := "", pkgPath := "", byteOffset := 8 }]) 2 (Go.Value.agg #[Go.Value.int Go.IntKind.i64 0, Go.Value.nilIface]) true := ⟨Tryd.underlying82, Tryd.sizeOf82, Tryd.zeroValue82, Tryd.isAgg82⟩
instance : SP Go.Proofs.Tryd.prog 82 #[{ name := "Day", type := 3, offset := 0, embedded := Bool.false, tag := "", pkgPath := "", byteOffset := 0 }, { name := "Of", type := 26, offset := 1, embedded := Bool.false, tag := "", pkgPath := "", byteOffset := 8 }] (List.toArray [(0, 1), (1, 1)]) := ⟨Tryd.underlying82, fun _ => by kernel_rfl⟩
instance : FA Go.Proofs.Tryd.prog 82 0 0 := ⟨fun _ _ _ => by kernel_rfl⟩
instance : FA Go.Proofs.Tryd.prog 82 1 1 := ⟨fun _ _ _ => by kernel_rfl⟩
instance : TI Go.Proofs.Tryd.prog 83 (Go.TypeDesc.struct #[{ name := "Test", type := 32, offset := 0, embedded := Bool.false, tag := "", pkgPath := "", byteOffset := 0 }, { name := "L", type := 26, offset := 1, embedded := Bool.false, tag := "", pkgPath := "", byteOffset := 16 }, { name := "R", type := 26, offset := 2, embedded := Bool.false, tag := "", pkgPath := "", byteOffset := 32 }]) 3 (Go.Value.agg #[Go.Value.nilIface, Go.Value.nilIface, Go.Value.nilIface]) true := ⟨Tryd.underlying83, Tryd.sizeOf83, Tryd.zeroValue83, Tryd.isAgg83⟩
instance : SP Go.Proofs.Tryd.prog 83 #[{ name := "Test", type := 32, offset := 0, embedded := Bool.false, tag := "", pkgPath := "", byteOffset := 0 }, { name := "L", type := 26, offset := 1, embedded := Bool.false, tag := "", pkgPath := "", byteOffset := 16 }, { name := "R", type := 26, offset := 2, embedded := Bool.false, tag := "", pkgPath := "", byteOffset := 32 }] (List.toArray [(0, 1), (1, 1), (2, 1)]) := ⟨Tryd.underlying83, fun _ => by kernel_rfl⟩
instance : FA Go.Proofs.Tryd.prog 83 0 0 := ⟨fun _ _ _ => by kernel_rfl⟩
instance : FA Go.Proofs.Tryd.prog 83 1 1 := ⟨fun _ _ _ => by kernel_rfl⟩
instance : FA Go.Proofs.Tryd.prog 83 2 2 := ⟨fun _ _ _ => by kernel_rfl⟩
instance : TI Go.Proofs.Tryd.prog 84 (Go.TypeDesc.struct #[{ name := "Test", type := 32, offset := 0, embedded := Bool.false, tag := "", pkgPath := "", byteOffset := 0 }, { name := "L", type := 26, offset := 1, embedded := Bool.false, tag := "", pkgPath := "", byteOffset := 16 }, { name := "R", type := 26, offset := 2, embedded := Bool.false, tag := "", pkgPath := "", byteOffset := 32 }]) 3 (Go.Value.agg #[Go.Value.nilIface, Go.Value.nilIface, Go.Value.nilIface]) true := ⟨Tryd.underlying84, Tryd.sizeOf84, Tryd.zeroValue84, Tryd.isAgg84⟩
instance : SP Go.Proofs.Tryd.prog 84 #[{ name := "Test", type := 32, offset := 0, embedded := Bool.false, tag := "", pkgPath := "", byteOffset := 0 }, { name := "L", type := 26, offset := 1, embedded := Bool.false, tag := "", pkgPath := "", byteOffset := 16 }, { name := "R", type := 26, offset := 2, embedded := Bool.false, tag := "", pkgPath := "", byteOffset := 32 }] (List.toArray [(0, 1), (1, 1), (2, 1)]) := ⟨Tryd.underlying84, fun _ => by kernel_rfl⟩
instance : FA Go.Proofs.Tryd.prog 84 0 0 := ⟨fun _ _ _ => by kernel_rfl⟩
instance : FA Go.Proofs.Tryd.prog 84 1 1 := ⟨fun _ _ _ => by kernel_rfl⟩
instance : FA Go.Proofs.Tryd.prog 84 2 2 := ⟨fun _ _ _ => by kernel_rfl⟩
instance : TI Go.Proofs.Tryd.prog 85 (Go.TypeDesc.pointer 66) 1 (Go.Value.pointer Option.none) false := ⟨Tryd.underlying85, Tryd.sizeOf85, Tryd.zeroValue85, Tryd.isAgg85⟩
instance : TI Go.Proofs.Tryd.prog 86 (Go.TypeDesc.struct #[{ name := "Day", type := 3, offset := 0, embedded := Bool.false, tag := "", pkgPath := "", byteOffset := 0 }, { name := "Cur", type := 9, offset := 1, embedded := Bool.false, tag := "", pkgPath := "", byteOffset := 8 }, { name := "Amount", type := 3, offset := 2, embedded := Bool.false, tag := "", pkgPath := "", byteOffset := 24 }]) 3 (Go.Value.agg #[Go.Value.int Go.IntKind.i64 0, Go.Value.string { data := #[] }, Go.Value.int Go.IntKind.i64 0]) true := ⟨Tryd.underlying86, Tryd.sizeOf86, Tryd.zeroValue86, Tryd.isAgg86⟩
instance : SP Go.Proofs.Tryd.prog 86 #[{ name := "Day", type := 3, offset := 0, embedded := Bool.false, tag := "", pkgPath := "", byteOffset := 0 }, { name := "Cur", type := 9, offset := 1, embedded := Bool.false, tag := "", pkgPath := "", byteOffset := 8 }, { name := "Amount", type := 3, offset := 2, embedded := Bool.false, tag := "", pkgPath := "", byteOffset := 24 }] (List.toArray [(0, 1), (1, 1), (2, 1)]) := ⟨Tryd.underlying86, fun _ => by kernel_rfl⟩
instance : FA Go.Proofs.Tryd.prog 86 0 0 := ⟨fun _ _ _ => by kernel_rfl⟩
instance : FA Go.Proofs.Tryd.prog 86 1 1 := ⟨fun _ _ _ => by kernel_rfl⟩
instance : FA Go.Proofs.Tryd.prog 86 2 2 := ⟨fun _ _ _ => by kernel_rfl⟩
instance : TI Go.Proofs.Tryd.prog 87 (Go.TypeDesc.struct #[{ name := "Day", type := 3, offset := 0, embedded := Bool.false, tag := "", pkgPath := "", byteOffset := 0 }, { name := "Cur", type := 9, offset := 1, embedded := Bool.false, tag := "", pkgPath := "", byteOffset := 8 }, { name := "Amount", type := 3, offset := 2, embedded := Bool.false, tag := "", pkgPath := "", byteOffset := 24 }]) 3 (Go.Value.agg #[Go.Value.int Go.IntKind.i64 0, Go.Value.string { data := #[] }, Go.Value.int Go.IntKind.i64 0]) true := ⟨Tryd.underlying87, Tryd.sizeOf87, Tryd.zeroValue87, Tryd.isAgg87⟩
instance : SP Go.Proofs.Tryd.prog 87 #[{ name := "Day", type := 3, offset := 0, embedded := Bool.false, tag := "", pkgPath := "", byteOffset := 0 }, { name := "Cur", type := 9, offset := 1, embedded := Bool.false, tag := "", pkgPath := "", byteOffset := 8 }, { name := "Amount", type := 3, offset := 2, embedded := Bool.false, tag := "", pkgPath := "", byteOffset := 24 }] (List.toArray [(0, 1), (1, 1), (2, 1)]) := ⟨Tryd.underlying87, fun _ => by kernel_rfl⟩
instance : FA Go.Proofs.Tryd.prog 87 0 0 := ⟨fun _ _ _ => by kernel_rfl⟩
instance : FA Go.Proofs.Tryd.prog 87 1 1 := ⟨fun _ _ _ => by kernel_rfl⟩
instance : FA Go.Proofs.Tryd.prog 87 2 2 := ⟨fun _ _ _ => by kernel_rfl⟩
instance : TI Go.Proofs.Tryd.prog 88 (Go.TypeDesc.map 9 3) 1 (Go.Value.map Option.none) false := ⟨Tryd.underlying88, Tryd.sizeOf88, Tryd.zeroValue88, Tryd.isAgg88⟩
instance : TI Go.Proofs.Tryd.prog 89 (Go.TypeDesc.pointer 64) 1 (Go.Value.pointer Option.none) false := ⟨Tryd.underlying89, Tryd.sizeOf89, Tryd.zeroValue89, Tryd.isAgg89⟩
instance : TI Go.Proofs.Tryd.prog 90 (Go.TypeDesc.slice 20) 1 (Go.Value.slice Option.none 0 0) false := ⟨Tryd.underlying90, Tryd.sizeOf90, Tryd.zeroValue90, Tryd.isAgg90⟩
instance : TI Go.Proofs.Tryd.prog 91 (Go.TypeDesc.func #[3, 29, 29] #[29] Bool.false) 1 Go.Value.nilFunc false := ⟨Tryd.underlying91, Tryd.sizeOf91, Tryd.zeroValue91, Tryd.isAgg91⟩
instance : TI Go.Proofs.Tryd.prog 92 (Go.TypeDesc.struct #[{ name := "Name", type := 9, offset := 0, embedded := Bool.false, tag := "", pkgPath := "", byteOffset := 0 }]) 1 (Go.Value.agg #[Go.Value.string { data := #[] }]) true := ⟨Tryd.underlying92, Tryd.sizeOf92, Tryd.zeroValue92, Tryd.isAgg92⟩
instance : SP Go.Proofs.Tryd.prog 92 #[{ name := "Name", type := 9, offset := 0, embedded := Bool.false, tag := "", pkgPath := "", byteOffset := 0 }] (List.toArray [(0, 1)]) := ⟨Tryd.underlying92, fun _ => by kernel_rfl⟩
instance : FA Go.Proofs.Tryd.prog 92 0 0 := ⟨fun _ _ _ => by kernel_rfl⟩
instance : TI Go.Proofs.Tryd.prog 93 (Go.TypeDesc.struct #[{ name := "Name", type := 9, offset := 0, embedded := Bool.false, tag := "", pkgPath := "", byteOffset := 0 }]) 1 (Go.Value.agg #[Go.Value.string { data := #[] }]) true := ⟨Tryd.underlying93, Tryd.sizeOf93, Tryd.zeroValue93, Tryd.isAgg93⟩
instance : SP Go.Proofs.Tryd.prog 93 #[{ name := "Name", type := 9, offset := 0, embedded := Bool.false, tag := "", pkgPath := "", byteOffset := 0 }] (List.toArray [(0, 1)]) := ⟨Tryd.underlying93, fun _ => by kernel_rfl⟩
instance : FA Go.Proofs.Tryd.prog 93 0 0 := ⟨fun _ _ _ => by kernel_rfl⟩
instance : TI Go.Proofs.Tryd.prog 94 (Go.TypeDesc.struct #[{ name := "Of", type := 32, offset := 0, embedded := Bool.false, tag := "", pkgPath := "", byteOffset := 0 }]) 1 (Go.Value.agg #[Go.Value.nilIface]) true := ⟨Tryd.underlying94, Tryd.sizeOf94, Tryd.zeroValue94, Tryd.isAgg94⟩
instance : SP Go.Proofs.Tryd.prog 94 #[{ name := "Of", type := 32, offset := 0, embedded := Bool.false, tag := "", pkgPath := "", byteOffset := 0 }] (List.toArray [(0, 1)]) := ⟨Tryd.underlying94, fun _ => by kernel_rfl⟩
instance : FA Go.Proofs.Tryd.prog 94 0 0 := ⟨fun _ _ _ => by kernel_rfl⟩
instance : TI Go.Proofs.Tryd.prog 95 (Go.TypeDesc.struct #[{ name := "Of", type := 32, offset := 0, embedded := Bool.false, tag := "", pkgPath := "", byteOffset := 0 }]) 1 (Go.Value.agg #[Go.Value.nilIface]) true := ⟨Tryd.underlying95, Tryd.sizeOf95, Tryd.zeroValue95, Tryd.isAgg95⟩
instance : SP Go.Proofs.Tryd.prog 95 #[{ name := "Of", type := 32, offset := 0, embedded := Bool.false, tag := "", pkgPath := "", byteOffset := 0 }] (List.toArray [(0, 1)]) := ⟨Tryd.underlying95, fun _ => by kernel_rfl⟩
instance : FA Go.Proofs.Tryd.prog 95 0 0 := ⟨fun _ _ _ => by kernel_rfl⟩
instance : TI Go.Proofs.Tryd.prog 96 (Go.TypeDesc.struct #[{ name := "L", type := 32, offset := 0, embedded := Bool.false, tag := "", pkgPath := "", byteOffset := 0 }, { name := "R", type := 32, offset := 1, embedded := Bool.false, tag := "", pkgPath := "", byteOffset := 16 }]) 2 (Go.Value.agg #[Go.Value.nilIface, Go.Value.nilIface]) true := ⟨Tryd.underlying96, Tryd.sizeOf96, Tryd.zeroValue96, Tryd.isAgg96⟩
instance : SP Go.Proofs.Tryd.prog 96 #[{ name := "L", type := 32, offset := 0, embedded := Bool.false, tag := "", pkgPath := "", byteOffset := 0 }, { name := "R", type := 32, offset := 1, embedded := Bool.false, tag := "", pkgPath := "", byteOffset := 16 }] (List.toArray [(0, 1), (1, 1)]) := ⟨Tryd.underlying96, fun _ => by kernel_rfl⟩
instance : FA Go.Proofs.Tryd.prog 96 0 0 := ⟨fun _ _ _ => by kernel_rfl⟩
instance : FA Go.Proofs.Tryd.prog 96 1 1 := ⟨fun _ _ _ => by kernel_rfl⟩
instance : TI Go.Proofs.Tryd.prog 97 (Go.TypeDesc.struct #[{ name := "L", type := 32, offset := 0, embedded := Bool.false, tag := "", pkgPath := "", byteOffset := 0 }, { name := "R", type := 32, offset := 1, embedded := Bool.false, tag := "", pkgPath := "", byteOffset := 16 }]) 2 (Go.Value.agg #[Go.Value.nilIface, Go.Value.nilIface]) true := ⟨Tryd.underlying97, Tryd.sizeOf97, Tryd.zeroValue97, Tryd.isAgg97⟩
instance : SP Go.Proofs.Tryd.prog 97 #[{ name := "L", type := 32, offset := 0, embedded := Bool.false, tag := "", pkgPath := "", byteOffset := 0 }, { name := "R", type := 32, offset := 1, embedded := Bool.false, tag := "", pkgPath := "", byteOffset := 16 }] (List.toArray [(0, 1), (1, 1)]) := ⟨Tryd.underlying97, fun _ => by kernel_rfl⟩
instance : FA Go.Proofs.Tryd.prog 97 0 0 := ⟨fun _ _ _ => by kernel_rfl⟩
instance : FA Go.Proofs.Tryd.prog 97 1 1 := ⟨fun _ _ _ => by kernel_rfl⟩
instance : TI Go.Proofs.Tryd.prog 98 (Go.TypeDesc.func #[26] #[4] Bool.false) 1 Go.Value.nilFunc false := ⟨Tryd.underlying98, Tryd.sizeOf98, Tryd.zeroValue98, Tryd.isAgg98⟩
instance : TI Go.Proofs.Tryd.prog 99 (Go.TypeDesc.func #[26] #[3, 3] Bool.false) 1 Go.Value.nilFunc false := ⟨Tryd.underlying99, Tryd.sizeOf99, Tryd.zeroValue99, Tryd.isAgg99⟩
instance : TI Go.Proofs.Tryd.prog 100 (Go.TypeDesc.func #[26] #[23] Bool.false) 1 Go.Value.nilFunc false := ⟨Tryd.underlying100, Tryd.sizeOf100, Tryd.zeroValue100, Tryd.isAgg100⟩
instance : TI Go.Proofs.Tryd.prog 101 (Go.TypeDesc.func #[23, 9] #[4] Bool.false) 1 Go.Value.nilFunc false := ⟨Tryd.underlying101, Tryd.sizeOf101, Tryd.zeroValue101, Tryd.isAgg101⟩
instance : TI Go.Proofs.Tryd.prog 102 (Go.TypeDesc.func #[9, 23] #[9] Bool.true) 1 Go.Value.nilFunc false := ⟨Tryd.underlying102, Tryd.sizeOf102, Tryd.zeroValue102, Tryd.isAgg102⟩
instance : TI Go.Proofs.Tryd.prog 103 (Go.TypeDesc.func #[3] #[9] Bool.false) 1 Go.Value.nilFunc false := ⟨Tryd.underlying103, Tryd.sizeOf103, Tryd.zeroValue103, Tryd.isAgg103⟩
instance : TI Go.Proofs.Tryd.prog 104 (Go.TypeDesc.func #[29, 4] #[4] Bool.false) 1 Go.Value.nilFunc false := ⟨Tryd.underlying104, Tryd.sizeOf104, Tryd.zeroValue104, Tryd.isAgg104⟩
instance : TI Go.Proofs.Tryd.prog 105 (Go.TypeDesc.func #[29] #[23] Bool.false) 1 Go.Value.nilFunc false := ⟨Tryd.underlying105, Tryd.sizeOf105, Tryd.zeroValue105, Tryd.isAgg105⟩
instance : TI Go.Proofs.Tryd.prog 106 (Go.TypeDesc.func #[32] #[4] Bool.false) 1 Go.Value.nilFunc false := ⟨Tryd.underlying106, Tryd.sizeOf106, Tryd.zeroValue106, Tryd.isAgg106⟩
instance : TI Go.Proofs.Tryd.prog 107 (Go.TypeDesc.func #[32] #[3, 3] Bool.false) 1 Go.Value.nilFunc false := ⟨Tryd.underlying107, Tryd.sizeOf107, Tryd.zeroValue107, Tryd.isAgg107⟩
instance : TI Go.Proofs.Tryd.prog 108 (Go.TypeDesc.func #[3] #[3] Bool.false) 1 Go.Value.nilFunc false := ⟨Tryd.underlying108, Tryd.sizeOf108, Tryd.zeroValue108, Tryd.isAgg108⟩
instance : TI Go.Proofs.Tryd.prog 109 (Go.TypeDesc.func #[23] #[9] Bool.true) 1 Go.Value.nilFunc false := ⟨Tryd.underlying109, Tryd.sizeOf109, Tryd.zeroValue109, Tryd.isAgg109⟩
instance : TI Go.Proofs.Tryd.prog 110 (Go.TypeDesc.func #[9, 3] #[9] Bool.false) 1 Go.Value.nilFunc false := ⟨Tryd.underlying110, Tryd.sizeOf110, Tryd.zeroValue110, Tryd.isAgg110⟩
instance : TI Go.Proofs.Tryd.prog 111 (Go.TypeDesc.tuple #[9, 3]) 1 (Go.Value.tuple #[Go.Value.string { data := #[] }, Go.Value.int Go.IntKind.i64 0]) false := ⟨Tryd.underlying111, Tryd.sizeOf111, Tryd.zeroValue111, Tryd.isAgg111⟩
instance : TI Go.Proofs.Tryd.prog 112 (Go.TypeDesc.func #[26] #[9, 3] Bool.false) 1 Go.Value.nilFunc false := ⟨Tryd.underlying112, Tryd.sizeOf112, Tryd.zeroValue112, Tryd.isAgg112⟩
instance : TI Go.Proofs.Tryd.prog 113 (Go.TypeDesc.func #[26] #[3] Bool.false) 1 Go.Value.nilFunc false := ⟨Tryd.underlying113, Tryd.sizeOf113, Tryd.zeroValue113, Tryd.isAgg113⟩
instance : TI Go.Proofs.Tryd.prog 114 (Go.TypeDesc.func #[9] #[4] Bool.false) 1 Go.Value.nilFunc false := ⟨Tryd.underlying114, Tryd.sizeOf114, Tryd.zeroValue114, Tryd.isAgg114⟩
instance : TI Go.Proofs.Tryd.prog 115 (Go.TypeDesc.tuple #[32, 4]) 1 (Go.Value.tuple #[Go.Value.nilIface, Go.Value.bool Bool.false]) false := ⟨Tryd.underlying115, Tryd.sizeOf115, Tryd.zeroValue115, Tryd.isAgg115⟩
instance : TI Go.Proofs.Tryd.prog 116 (Go.TypeDesc.func #[26] #[32, 4] Bool.false) 1 Go.Value.nilFunc false := ⟨Tryd.underlying116, Tryd.sizeOf116, Tryd.zeroValue116, Tryd.isAgg116⟩
instance : TI Go.Proofs.Tryd.prog 117 (Go.TypeDesc.func #[118, 98] #[4] Bool.false) 1 Go.Value.nilFunc false := ⟨Tryd.underlying117, Tryd.sizeOf117, Tryd.zeroValue117, Tryd.isAgg117⟩
instance : TI Go.Proofs.Tryd.prog 118 (Go.TypeDesc.slice 26) 1 (Go.Value.slice Option.none 0 0) false := ⟨Tryd.underlying118, Tryd.sizeOf118, Tryd.zeroValue118, Tryd.isAgg118⟩
instance : TI Go.Proofs.Tryd.prog 119 (Go.TypeDesc.func #[26] #[118] Bool.false) 1 Go.Value.nilFunc false := ⟨Tryd.underlying119, Tryd.sizeOf119, Tryd.zeroValue119, Tryd.isAgg119⟩
instance : TI Go.Proofs.Tryd.prog 120 (Go.TypeDesc.tuple #[80, 4]) 1 (Go.Value.tuple #[Go.Value.agg #[Go.Value.string { data := #[] }, Go.Value.nilIface, Go.Value.nilIface], Go.Value.bool Bool.false]) false := ⟨Tryd.underlying120, Tryd.sizeOf120, Tryd.zeroValue120, Tryd.isAgg120⟩
instance : TI Go.Proofs.Tryd.prog 121 (Go.TypeDesc.func #[23, 9] #[3] Bool.false) 1 Go.Value.nilFunc false := ⟨Tryd.underlying121, Tryd.sizeOf121, Tryd.zeroValue121, Tryd.isAgg121⟩
instance : TI Go.Proofs.Tryd.prog 122 (Go.TypeDesc.func #[23, 9] #[9] Bool.false) 1 Go.Value.nilFunc false := ⟨Tryd.underlying122, Tryd.sizeOf122, Tryd.zeroValue122, Tryd.isAgg122⟩
instance : TI Go.Proofs.Tryd.prog 123 (Go.TypeDesc.func #[3] #[4] Bool.false) 1 Go.Value.nilFunc false := ⟨Tryd.underlying123, Tryd.sizeOf123, Tryd.zeroValue123, Tryd.isAgg123⟩
instance : TI Go.Proofs.Tryd.prog 124 (Go.TypeDesc.slice 5) 1 (Go.Value.slice Option.none 0 0) false := ⟨Tryd.underlying124, Tryd.sizeOf124, Tryd.zeroValue124, Tryd.isAgg124⟩
instance : TI Go.Proofs.Tryd.prog 125 (Go.TypeDesc.tuple #[4, 4]) 1 (Go.Value.tuple #[Go.Value.bool Bool.false, Go.Value.bool Bool.false]) false := ⟨Tryd.underlying125, Tryd.sizeOf125, Tryd.zeroValue125, Tryd.isAgg125⟩
instance : TI Go.Proofs.Tryd.prog 126 (Go.TypeDesc.func #[32] #[4, 4] Bool.false) 1 Go.Value.nilFunc false := ⟨Tryd.underlying126, Tryd.sizeOf126, Tryd.zeroValue126, Tryd.isAgg126⟩
instance : TI Go.Proofs.Tryd.prog 127 (Go.TypeDesc.func #[128, 106] #[4] Bool.false) 1 Go.Value.nilFunc false := ⟨Tryd.underlying127, Tryd.sizeOf127, Tryd.zeroValue127, Tryd.isAgg127⟩
instance : TI Go.Proofs.Tryd.prog 128 (Go.TypeDesc.slice 32) 1 (Go.Value.slice Option.none 0 0) false := ⟨Tryd.underlying128, Tryd.sizeOf128, Tryd.zeroValue128, Tryd.isAgg128⟩
instance : TI Go.Proofs.Tryd.prog 129 (Go.TypeDesc.func #[32] #[128] Bool.false) 1 Go.Value.nilFunc false := ⟨Tryd.underlying129, Tryd.sizeOf129, Tryd.zeroValue129, Tryd.isAgg129⟩
instance : TI Go.Proofs.Tryd.prog 130 (Go.TypeDesc.tuple #[66, 4]) 1 (Go.Value.tuple #[Go.Value.agg #[Go.Value.string { data := #[] }], Go.Value.bool Bool.false]) false := ⟨Tryd.underlying130, Tryd.sizeOf130, Tryd.zeroValue130, Tryd.isAgg130⟩
instance : TI Go.Proofs.Tryd.prog 131 (Go.TypeDesc.tuple #[82, 4]) 1 (Go.Value.tuple #[Go.Value.agg #[Go.Value.int Go.IntKind.i64 0, Go.Value.nilIface], Go.Value.bool Bool.false]) false := ⟨Tryd.underlying131, Tryd.sizeOf131, Tryd.zeroValue131, Tryd.isAgg131⟩
instance : TI Go.Proofs.Tryd.prog 132 (Go.TypeDesc.func #[21] #[4] Bool.false) 1 Go.Value.nilFunc false := ⟨Tryd.underlying132, Tryd.sizeOf132, Tryd.zeroValue132, Tryd.isAgg132⟩
instance : TI Go.Proofs.Tryd.prog 133 (Go.TypeDesc.tuple #[50, 4]) 1 (Go.Value.tuple #[Go.Value.agg #[Go.Value.nilIface, Go.Value.nilIface], Go.Value.bool Bool.false]) false := ⟨Tryd.underlying133, Tryd.sizeOf133, Tryd.zeroValue133, Tryd.isAgg133⟩
instance : TI Go.Proofs.Tryd.prog 134 (Go.TypeDesc.tuple #[84, 4]) 1 (Go.Value.tuple #[Go.Value.agg #[Go.Value.nilIface, Go.Value.nilIface, Go.Value.nilIface], Go.Value.bool Bool.false]) false := ⟨Tryd.underlying134, Tryd.sizeOf134, Tryd.zeroValue134, Tryd.isAgg134⟩
instance : TI Go.Proofs.Tryd.prog 135 (Go.TypeDesc.func #[118, 98] #[3] Bool.false) 1 Go.Value.nilFunc false := ⟨Tryd.underlying135, Tryd.sizeOf135, Tryd.zeroValue135, Tryd.isAgg135⟩
instance : TI Go.Proofs.Tryd.prog 136 (Go.TypeDesc.tuple #[78, 4]) 1 (Go.Value.tuple #[Go.Value.agg #[Go.Value.nilIface], Go.Value.bool Bool.false]) false := ⟨Tryd.underlying136, Tryd.sizeOf136, Tryd.zeroValue136, Tryd.isAgg136⟩
instance : TI Go.Proofs.Tryd.prog 137 (Go.TypeDesc.tuple #[48, 4]) 1 (Go.Value.tuple #[Go.Value.agg #[Go.Value.nilIface, Go.Value.nilIface], Go.Value.bool Bool.false]) false := ⟨Tryd.underlying137, Tryd.sizeOf137, Tryd.zeroValue137, Tryd.isAgg137⟩
instance : TI Go.Proofs.Tryd.prog 138 (Go.TypeDesc.pointer 140) 1 (Go.Value.pointer Option.none) false := ⟨Tryd.underlying138, Tryd.sizeOf138, Tryd.zeroValue138, Tryd.isAgg138⟩
instance : TI Go.Proofs.Tryd.prog 139 (Go.TypeDesc.struct #[{ name := "addr", type := 138, offset := 0, embedded := Bool.false, tag := "", pkgPath := "strings", byteOffset := 0 }, { name := "buf", type := 124, offset := 1, embedded := Bool.false, tag := "", pkgPath := "strings", byteOffset := 8 }]) 2 (Go.Value.agg #[Go.Value.pointer Option.none, Go.Value.slice Option.none 0 0]) true := ⟨Tryd.underlying139, Tryd.sizeOf139, Tryd.zeroValue139, Tryd.isAgg139⟩
instance : SP Go.Proofs.Tryd.prog 139 #[{ name := "addr", type := 138, offset := 0, embedded := Bool.false, tag := "", pkgPath := "strings", byteOffset := 0 }, { name := "buf", type := 124, offset := 1, embedded := Bool.false, tag := "", pkgPath := "strings", byteOffset := 8 }] (List.toArray [(0, 1), (1, 1)]) := ⟨Tryd.underlying139, fun _ => by kernel_rfl⟩
instance : FA Go.Proofs.Tryd.prog 139 0 0 := ⟨fun _ _ _ => by kernel_rfl⟩
instance : FA Go.Proofs.Tryd.prog 139 1 1 := ⟨fun _ _ _ => by kernel_rfl⟩
instance : TI Go.Proofs.Tryd.prog 140 (Go.TypeDesc.struct #[{ name := "addr", type := 138, offset := 0, embedded := Bool.false, tag := "", pkgPath := "strings", byteOffset := 0 }, { name := "buf", type := 124, offset := 1, embedded := Bool.false, tag := "", pkgPath := "strings", byteOffset := 8 }]) 2 (Go.Value.agg #[Go.Value.pointer Option.none, Go.Value.slice Option.none 0 0]) true := ⟨Tryd.underlying140, Tryd.sizeOf140, Tryd.zeroValue140, Tryd.isAgg140⟩
instance : SP Go.Proofs.Tryd.prog 140 #[{ name := "addr", type := 138, offset := 0, embedded := Bool.false, tag := "", pkgPath := "strings", byteOffset := 0 }, { name := "buf", type := 124, offset := 1, embedded := Bool.false, tag := "", pkgPath := "strings", byteOffset := 8 }] (List.toArray [(0, 1), (1, 1)]) := ⟨Tryd.underlying140, fun _ => by kernel_rfl⟩
instance : FA Go.Proofs.Tryd.prog 140 0 0 := ⟨fun _ _ _ => by kernel_rfl⟩
instance : FA Go.Proofs.Tryd.prog 140 1 1 := ⟨fun _ _ _ => by kernel_rfl⟩
instance : TI Go.Proofs.Tryd.prog 141 (Go.TypeDesc.func #[3] #[] Bool.false) 1 Go.Value.nilFunc false := ⟨Tryd.underlying141, Tryd.sizeOf141, Tryd.zeroValue141, Tryd.isAgg141⟩
instance : TI Go.Proofs.Tryd.prog 142 (Go.TypeDesc.interface #[("Error", 146)]) 1 Go.Value.nilIface false := ⟨Tryd.underlying142, Tryd.sizeOf142, Tryd.zeroValue142, Tryd.isAgg142⟩
instance : TI Go.Proofs.Tryd.prog 143 (Go.TypeDesc.interface #[("Error", 146)]) 1 Go.Value.nilIface false := ⟨Tryd.underlying143, Tryd.sizeOf143, Tryd.zeroValue143, Tryd.isAgg143⟩
instance : TI Go.Proofs.Tryd.prog 144 (Go.TypeDesc.tuple #[3, 143]) 1 (Go.Value.tuple #[Go.Value.int Go.IntKind.i64 0, Go.Value.nilIface]) false := ⟨Tryd.underlying144, Tryd.sizeOf144, Tryd.zeroValue144, Tryd.isAgg144⟩
instance : TI Go.Proofs.Tryd.prog 145 (Go.TypeDesc.func #[9] #[3, 143] Bool.false) 1 Go.Value.nilFunc false := ⟨Tryd.underlying145, Tryd.sizeOf145, Tryd.zeroValue145, Tryd.isAgg145⟩
instance : TI Go.Proofs.Tryd.prog 146 (Go.TypeDesc.func #[] #[9] Bool.false) 1 Go.Value.nilFunc false := ⟨Tryd.underlying146, Tryd.sizeOf146, Tryd.zeroValue146, Tryd.isAgg146⟩
instance : TI Go.Proofs.Tryd.prog 147 (Go.TypeDesc.func #[2, 3] #[9] Bool.false) 1 Go.Value.nilFunc false := ⟨Tryd.underlying147, Tryd.sizeOf147, Tryd.zeroValue147, Tryd.isAgg147⟩
instance : TI Go.Proofs.Tryd.prog 148 (Go.TypeDesc.slice 21) 1 (Go.Value.slice Option.none 0 0) false := ⟨Tryd.underlying148, Tryd.sizeOf148, Tryd.zeroValue148, Tryd.isAgg148⟩
instance : TI Go.Proofs.Tryd.prog 149 (Go.TypeDesc.func #[9] #[148] Bool.false) 1 Go.Value.nilFunc false := ⟨Tryd.underlying149, Tryd.sizeOf149, Tryd.zeroValue149, Tryd.isAgg149⟩
instance : TI Go.Proofs.Tryd.prog 150 (Go.TypeDesc.tuple #[64, 4]) 1 (Go.Value.tuple #[Go.Value.agg #[Go.Value.int Go.IntKind.i64 0], Go.Value.bool Bool.false]) false := ⟨Tryd.underlying150, Tryd.sizeOf150, Tryd.zeroValue150, Tryd.isAgg150⟩
instance : TI Go.Proofs.Tryd.prog 151 (Go.TypeDesc.tuple #[93, 4]) 1 (Go.Value.tuple #[Go.Value.agg #[Go.Value.string { data := #[] }], Go.Value.bool Bool.false]) false := ⟨Tryd.underlying151, Tryd.sizeOf151, Tryd.zeroValue151, Tryd.isAgg151⟩
instance : TI Go.Proofs.Tryd.prog 152 (Go.TypeDesc.func #[128, 106] #[3] Bool.false) 1 Go.Value.nilFunc false := ⟨Tryd.underlying152, Tryd.sizeOf152, Tryd.zeroValue152, Tryd.isAgg152⟩
instance : TI Go.Proofs.Tryd.prog 153 (Go.TypeDesc.tuple #[54, 4]) 1 (Go.Value.tuple #[Go.Value.agg #[Go.Value.nilIface, Go.Value.nilIface], Go.Value.bool Bool.false]) false := ⟨Tryd.underlying153, Tryd.sizeOf153, Tryd.zeroValue153, Tryd.isAgg153⟩
instance : TI Go.Proofs.Tryd.prog 154 (Go.TypeDesc.tuple #[96, 4]) 1 (Go.Value.tuple #[Go.Value.agg #[Go.Value.nilIface, Go.Value.nilIface], Go.Value.bool Bool.false]) false := ⟨Tryd.underlying154, Tryd.sizeOf154, Tryd.zeroValue154, Tryd.isAgg154⟩
instance : TI Go.Proofs.Tryd.prog 155 (Go.TypeDesc.tuple #[97, 4]) 1 (Go.Value.tuple #[Go.Value.agg #[Go.Value.nilIface, Go.Value.nilIface], Go.Value.bool Bool.false]) false := ⟨Tryd.underlying155, Tryd.sizeOf155, Tryd.zeroValue155, Tryd.isAgg155⟩
instance : TI Go.Proofs.Tryd.prog 156 (Go.TypeDesc.tuple #[95, 4]) 1 (Go.Value.tuple #[Go.Value.agg #[Go.Value.nilIface], Go.Value.bool Bool.false]) false := ⟨Tryd.underlying156, Tryd.sizeOf156, Tryd.zeroValue156, Tryd.isAgg156⟩
instance : TI Go.Proofs.Tryd.prog 157 (Go.TypeDesc.pointer 5) 1 (Go.Value.pointer Option.none) false := ⟨Tryd.underlying157, Tryd.sizeOf157, Tryd.zeroValue157, Tryd.isAgg157⟩
instance : TI Go.Proofs.Tryd.prog 158 (Go.TypeDesc.array 24 5) 24 (Go.Value.agg #[Go.Value.int Go.IntKind.u8 0, Go.Value.int Go.IntKind.u8 0, Go.Value.int Go.IntKind.u8 0, Go.Value.int Go.IntKind.u8 0, Go.Value.int Go.IntKind.u8 0, Go.Value.int Go.IntKind.u8 0, Go.Value.int Go.IntKind.u8 0, Go.Value.int Go.IntKind.u8 0, Go.Value.int Go.IntKind.u8 0, Go.Value.int Go.IntKind.u8 0, Go.Value.int Go.IntKind.u8 0, Go.Value.int Go.IntKind.u8 0, Go.Value.int Go.IntKind.u8 0, Go.Value.int Go.IntKind.u8 0, Go.Value.int Go.IntKind.u8 0, Go.Value.int Go.IntKind.u8 0, Go.Value.int Go.IntKind.u8 0, Go.Value.int Go.IntKind.u8 0, Go.Value.int Go.IntKind.u8 0, Go.Value.int Go.IntKind.u8 0, Go.Value.int Go.IntKind.u8 0, Go.Value.int Go.IntKind.u8 0, Go.Value.int Go.IntKind.u8 0, Go.Value.int Go.IntKind.u8 0]) true := ⟨Tryd.underlying158, Tryd.sizeOf158, Tryd.zeroValue158, Tryd.isAgg158⟩
instance : TI Go.Proofs.Tryd.prog 159 (Go.TypeDesc.int Go.IntKind.u64) 1 (Go.Value.int Go.IntKind.u64 0) false := ⟨Tryd.underlying159, Tryd.sizeOf159, Tryd.zeroValue159, Tryd.isAgg159⟩
instance : TI Go.Proofs.Tryd.prog 160 (Go.TypeDesc.func #[159] #[3] Bool.false) 1 Go.Value.nilFunc false := ⟨Tryd.underlying160, Tryd.sizeOf160, Tryd.zeroValue160, Tryd.isAgg160⟩
instance : TI Go.Proofs.Tryd.prog 161 (Go.TypeDesc.func #[124, 159] #[] Bool.false) 1 Go.Value.nilFunc false := ⟨Tryd.underlying161, Tryd.sizeOf161, Tryd.zeroValue161, Tryd.isAgg161⟩
instance : TI Go.Proofs.Tryd.prog 162 (Go.TypeDesc.tuple #[124, 9]) 1 (Go.Value.tuple #[Go.Value.slice Option.none 0 0, Go.Value.string { data := #[] }]) false := ⟨Tryd.underlying162, Tryd.sizeOf162, Tryd.zeroValue162, Tryd.isAgg162⟩
instance : TI Go.Proofs.Tryd.prog 163 (Go.TypeDesc.func #[124, 159, 3, 4, 4] #[124, 9] Bool.false) 1 Go.Value.nilFunc false := ⟨Tryd.underlying163, Tryd.sizeOf163, Tryd.zeroValue163, Tryd.isAgg163⟩
instance : TI Go.Proofs.Tryd.prog 165 (Go.TypeDesc.func #[164] #[164] Bool.false) 1 Go.Value.nilFunc false := ⟨Tryd.underlying165, Tryd.sizeOf165, Tryd.zeroValue165, Tryd.isAgg165⟩
instance : TI Go.Proofs.Tryd.prog 166 (Go.TypeDesc.func #[3] #[124] Bool.false) 1 Go.Value.nilFunc false := ⟨Tryd.underlying166, Tryd.sizeOf166, Tryd.zeroValue166, Tryd.isAgg166⟩
instance : TI Go.Proofs.Tryd.prog 167 (Go.TypeDesc.func #[4] #[3] Bool.false) 1 Go.Value.nilFunc false := ⟨Tryd.underlying167, Tryd.sizeOf167, Tryd.zeroValue167, Tryd.isAgg167⟩
instance : TI Go.Proofs.Tryd.prog 168 (Go.TypeDesc.array 20 159) 20 (Go.Value.agg #[Go.Value.int Go.IntKind.u64 0, Go.Value.int Go.IntKind.u64 0, Go.Value.int Go.IntKind.u64 0, Go.Value.int Go.IntKind.u64 0, Go.Value.int Go.IntKind.u64 0, Go.Value.int Go.IntKind.u64 0, Go.Value.int Go.IntKind.u64 0, Go.Value.int Go.IntKind.u64 0, Go.Value.int Go.IntKind.u64 0, Go.Value.int Go.IntKind.u64 0, Go.Value.int Go.IntKind.u64 0, Go.Value.int Go.IntKind.u64 0, Go.Value.int Go.IntKind.u64 0, Go.Value.int Go.IntKind.u64 0, Go.Value.int Go.IntKind.u64 0, Go.Value.int Go.IntKind.u64 0, Go.Value.int Go.IntKind.u64 0, Go.Value.int Go.IntKind.u64 0, Go.Value.int Go.IntKind.u64 0, Go.Value.int Go.IntKind.u64 0]) true := ⟨Tryd.underlying168, Tryd.sizeOf168, Tryd.zeroValue168, Tryd.isAgg168⟩
instance : TI Go.Proofs.Tryd.prog 169 (Go.TypeDesc.int Go.IntKind.u32) 1 (Go.Value.int Go.IntKind.u32 0) false := ⟨Tryd.underlying169, Tryd.sizeOf169, Tryd.zeroValue169, Tryd.isAgg169⟩
instance : TI Go.Proofs.Tryd.prog 171 (Go.TypeDesc.int Go.IntKind.u64) 1 (Go.Value.int Go.IntKind.u64 0) false := ⟨Tryd.underlying171, Tryd.sizeOf171, Tryd.zeroValue171, Tryd.isAgg171⟩
instance : TI Go.Proofs.Tryd.prog 172 (Go.TypeDesc.func #[171] #[3] Bool.false) 1 Go.Value.nilFunc false := ⟨Tryd.underlying172, Tryd.sizeOf172, Tryd.zeroValue172, Tryd.isAgg172⟩
instance : TI Go.Proofs.Tryd.prog 173 (Go.TypeDesc.func #[169] #[3] Bool.false) 1 Go.Value.nilFunc false := ⟨Tryd.underlying173, Tryd.sizeOf173, Tryd.zeroValue173, Tryd.isAgg173⟩
instance : TI Go.Proofs.Tryd.prog 174 (Go.TypeDesc.array 32 5) 32 (Go.Value.agg #[Go.Value.int Go.IntKind.u8 0, Go.Value.int Go.IntKind.u8 0, Go.Value.int Go.IntKind.u8 0, Go.Value.int Go.IntKind.u8 0, Go.Value.int Go.IntKind.u8 0, Go.Value.int Go.IntKind.u8 0, Go.Value.int Go.IntKind.u8 0, Go.Value.int Go.IntKind.u8 0, Go.Value.int Go.IntKind.u8 0, Go.Value.int Go.IntKind.u8 0, Go.Value.int Go.IntKind.u8 0, Go.Value.int Go.IntKind.u8 0, Go.Value.int Go.IntKind.u8 0, Go.Value.int Go.IntKind.u8 0, Go.Value.int Go.IntKind.u8 0, Go.Value.int Go.IntKind.u8 0, Go.Value.int Go.IntKind.u8 0, Go.Value.int Go.IntKind.u8 0, Go.Value.int Go.IntKind.u8 0, Go.Value.int Go.IntKind.u8 0, Go.Value.int Go.IntKind.u8 0, Go.Value.int Go.IntKind.u8 0, Go.Value.int Go.IntKind.u8 0, Go.Value.int Go.IntKind.u8 0, Go.Value.int Go.IntKind.u8 0, Go.Value.int Go.IntKind.u8 0, Go.Value.int Go.IntKind.u8 0, Go.Value.int Go.IntKind.u8 0, Go.Value.int Go.IntKind.u8 0, Go.Value.int Go.IntKind.u8 0, Go.Value.int Go.IntKind.u8 0, Go.Value.int Go.IntKind.u8 0]) true := ⟨Tryd.underlying174, Tryd.sizeOf174, Tryd.zeroValue174, Tryd.isAgg174⟩
instance : TI Go.Proofs.Tryd.prog 175 (Go.TypeDesc.array 64 5) 64 (Go.Value.agg #[Go.Value.int Go.IntKind.u8 0, Go.Value.int Go.IntKind.u8 0, Go.Value.int Go.IntKind.u8 0, Go.Value.int Go.IntKind.u8 0, Go.Value.int Go.IntKind.u8 0, Go.Value.int Go.IntKind.u8 0, Go.Value.int Go.IntKind.u8 0, Go.Value.int Go.IntKind.u8 0, Go.Value.int Go.IntKind.u8 0, Go.Value.int Go.IntKind.u8 0, Go.Value.int Go.IntKind.u8 0, Go.Value.int Go.IntKind.u8 0, Go.Value.int Go.IntKind.u8 0, Go.Value.int Go.IntKind.u8 0, Go.Value.int Go.IntKind.u8 0, Go.Value.int Go.IntKind.u8 0, Go.Value.int Go.IntKind.u8 0, Go.Value.int Go.IntKind.u8 0, Go.Value.int Go.IntKind.u8 0, Go.Value.int Go.IntKind.u8 0, Go.Value.int Go.IntKind.u8 0, Go.Value.int Go.IntKind.u8 0, Go.Value.int Go.IntKind.u8 0, Go.Value.int Go.IntKind.u8 0, Go.Value.int Go.IntKind.u8 0, Go.Value.int Go.IntKind.u8 0, Go.Value.int Go.IntKind.u8 0, Go.Value.int Go.IntKind.u8 0, Go.Value.int Go.IntKind.u8 0, Go.Value.int Go.IntKind.u8 0, Go.Value.int Go.IntKind.u8 0, Go.Value.int Go.IntKind.u8 0, Go.Value.int Go.IntKind.u8 0, Go.Value.int Go.IntKind.u8 0, Go.Value.int Go.IntKind.u8 0, Go.Value.int Go.IntKind.u8 0, Go.Value.int Go.IntKind.u8 0, Go.Value.int Go.IntKind.u8 0, Go.Value.int Go.IntKind.u8 0, Go.Value.int Go.IntKind.u8 0, Go.Value.int Go.IntKind.u8 0, Go.Value.int Go.IntKind.u8 0, Go.Value.int Go.IntKind.u8 0, Go.Value.int Go.IntKind.u8 0, Go.Value.int Go.IntKind.u8 0, Go.Value.int Go.IntKind.u8 0, Go.Value.int Go.IntKind.u8 0, Go.Value.int Go.IntKind.u8 0, Go.Value.int Go.IntKind.u8 0, Go.Value.int Go.IntKind.u8 0, Go.Value.int Go.IntKind.u8 0, Go.Value.int Go.IntKind.u8 0, Go.Value.int Go.IntKind.u8 0, Go.Value.int Go.IntKind.u8 0, Go.Value.int Go.IntKind.u8 0, Go.Value.int Go.IntKind.u8 0, Go.Value.int Go.IntKind.u8 0, Go.Value.int Go.IntKind.u8 0, Go.Value.int Go.IntKind.u8 0, Go.Value.int Go.IntKind.u8 0, Go.Value.int Go.IntKind.u8 0, Go.Value.int Go.IntKind.u8 0, Go.Value.int Go.IntKind.u8 0, Go.Value.int Go.IntKind.u8 0]) true := ⟨Tryd.underlying175, Tryd.sizeOf175, Tryd.zeroValue175, Tryd.isAgg175⟩
instance : TI Go.Proofs.Tryd.prog 176 (Go.TypeDesc.struct #[{ name := "_interface", type := 17, offset := 0, embedded := Bool.false, tag := "", pkgPath := "runtime", byteOffset := 0 }, { name := "concrete", type := 17, offset := 1, embedded := Bool.false, tag := "", pkgPath := "runtime", byteOffset := 8 }, { name := "asserted", type := 17, offset := 2, embedded := Bool.false, tag := "", pkgPath := "runtime", byteOffset := 16 }, { name := "missingMethod", type := 9, offset := 3, embedded := Bool.false, tag := "", pkgPath := "runtime", byteOffset := 24 }]) 4 (Go.Value.agg #[Go.Value.pointer Option.none, Go.Value.pointer Option.none, Go.Value.pointer Option.none, Go.Value.string { data := #[] }]) true := ⟨Tryd.underlying176, Tryd.sizeOf176, Tryd.zeroValue176, Tryd.isAgg176⟩
instance : SP Go.Proofs.Tryd.prog 176 #[{ name := "_interface", type := 17, offset := 0, embedded := Bool.false, tag := "", pkgPath := "runtime", byteOffset := 0 }, { name := "concrete", type := 17, offset := 1, embedded := Bool.false, tag := "", pkgPath := "runtime", byteOffset := 8 }, { name := "asserted", type := 17, offset := 2, embedded := Bool.false, tag := "", pkgPath := "runtime", byteOffset := 16 }, { name := "missingMethod", type := 9, offset := 3, embedded := Bool.false, tag := "", pkgPath := "runtime", byteOffset := 24 }] (List.toArray [(0, 1), (1, 1), (2, 1), (3, 1)]) := ⟨Tryd.underlying176, fun _ => by kernel_rfl⟩
instance : FA Go.Proofs.Tryd.prog 176 0 0 := ⟨fun _ _ _ => by kernel_rfl⟩
instance : FA Go.Proofs.Tryd.prog 176 1 1 := ⟨fun _ _ _ => by kernel_rfl⟩
instance : FA Go.Proofs.Tryd.prog 176 2 2 := ⟨fun _ _ _ => by kernel_rfl⟩
instance : FA Go.Proofs.Tryd.prog 176 3 3 := ⟨fun _ _ _ => by kernel_rfl⟩
instance : TI Go.Proofs.Tryd.prog 177 (Go.TypeDesc.struct #[{ name := "_interface", type := 17, offset := 0, embedded := Bool.false, tag := "", pkgPath := "runtime", byteOffset := 0 }, { name := "concrete", type := 17, offset := 1, embedded := Bool.false, tag := "", pkgPath := "runtime", byteOffset := 8 }, { name := "asserted", type := 17, offset := 2, embedded := Bool.false, tag := "", pkgPath := "runtime", byteOffset := 16 }, { name := "missingMethod", type := 9, offset := 3, embedded := Bool.false, tag := "", pkgPath := "runtime", byteOffset := 24 }]) 4 (Go.Value.agg #[Go.Value.pointer Option.none, Go.Value.pointer Option.none, Go.Value.pointer Option.none, Go.Value.string { data := #[] }]) true := ⟨Tryd.underlying177, Tryd.sizeOf177, Tryd.zeroValue177, Tryd.isAgg177⟩
instance : SP Go.Proofs.Tryd.prog 177 #[{ name := "_interface", type := 17, offset := 0, embedded := Bool.false, tag := "", pkgPath := "runtime", byteOffset := 0 }, { name := "concrete", type := 17, offset := 1, embedded := Bool.false, tag := "", pkgPath := "runtime", byteOffset := 8 }, { name := "asserted", type := 17, offset := 2, embedded := Bool.false, tag := "", pkgPath := "runtime", byteOffset := 16 }, { name := "missingMethod", type := 9, offset := 3, embedded := Bool.false, tag := "", pkgPath := "runtime", byteOffset := 24 }] (List.toArray [(0, 1), (1, 1), (2, 1), (3, 1)]) := ⟨Tryd.underlying177, fun _ => by kernel_rfl⟩
instance : FA Go.Proofs.Tryd.prog 177 0 0 := ⟨fun _ _ _ => by kernel_rfl⟩
instance : FA Go.Proofs.Tryd.prog 177 1 1 := ⟨fun _ _ _ => by kernel_rfl⟩
instance : FA Go.Proofs.Tryd.prog 177 2 2 := ⟨fun _ _ _ => by kernel_rfl⟩
instance : FA Go.Proofs.Tryd.prog 177 3 3 := ⟨fun _ _ _ => by kernel_rfl⟩
instance : TI Go.Proofs.Tryd.prog 178 (Go.TypeDesc.array 0 16) 0 (Go.Value.agg #[]) true := ⟨Tryd.underlying178, Tryd.sizeOf178, Tryd.zeroValue178, Tryd.isAgg178⟩
instance : TI Go.Proofs.Tryd.prog 179 (Go.TypeDesc.struct #[{ name := "_", type := 178, offset := 0, embedded := Bool.false, tag := "", pkgPath := "runtime", byteOffset := 0 }]) 0 (Go.Value.agg #[]) true := ⟨Tryd.underlying179, Tryd.sizeOf179, Tryd.zeroValue179, Tryd.isAgg179⟩
instance : SP Go.Proofs.Tryd.prog 179 #[{ name := "_", type := 178, offset := 0, embedded := Bool.false, tag := "", pkgPath := "runtime", byteOffset := 0 }] (List.toArray [(0, 0)]) := ⟨Tryd.underlying179, fun _ => by kernel_rfl⟩
instance : TI Go.Proofs.Tryd.prog 180 (Go.TypeDesc.struct #[{ name := "_", type := 178, offset := 0, embedded := Bool.false, tag := "", pkgPath := "runtime", byteOffset := 0 }]) 0 (Go.Value.agg #[]) true := ⟨Tryd.underlying180, Tryd.sizeOf180, Tryd.zeroValue180, Tryd.isAgg180⟩
instance : SP Go.Proofs.Tryd.prog 180 #[{ name := "_", type := 178, offset := 0, embedded := Bool.false, tag := "", pkgPath := "runtime", byteOffset := 0 }] (List.toArray [(0, 0)]) := ⟨Tryd.underlying180, fun _ => by kernel_rfl⟩
instance : TI Go.Proofs.Tryd.prog 181 (Go.TypeDesc.func #[] #[3] Bool.false) 1 Go.Value.nilFunc false := ⟨Tryd.underlying181, Tryd.sizeOf181, Tryd.zeroValue181, Tryd.isAgg181⟩
instance : TI Go.Proofs.Tryd.prog 182 (Go.TypeDesc.int Go.IntKind.u8) 1 (Go.Value.int Go.IntKind.u8 0) false := ⟨Tryd.underlying182, Tryd.sizeOf182, Tryd.zeroValue182, Tryd.isAgg182⟩
instance : TI Go.Proofs.Tryd.prog 183 (Go.TypeDesc.int Go.IntKind.u8) 1 (Go.Value.int Go.IntKind.u8 0) false := ⟨Tryd.underlying183, Tryd.sizeOf183, Tryd.zeroValue183, Tryd.isAgg183⟩
instance : TI Go.Proofs.Tryd.prog 184 (Go.TypeDesc.func #[164, 164] #[4] Bool.false) 1 Go.Value.nilFunc false := ⟨Tryd.underlying184, Tryd.sizeOf184, Tryd.zeroValue184, Tryd.isAgg184⟩
instance : TI Go.Proofs.Tryd.prog 185 (Go.TypeDesc.int Go.IntKind.i32) 1 (Go.Value.int Go.IntKind.i32 0) false := ⟨Tryd.underlying185, Tryd.sizeOf185, Tryd.zeroValue185, Tryd.isAgg185⟩
instance : TI Go.Proofs.Tryd.prog 186 (Go.TypeDesc.int Go.IntKind.i32) 1 (Go.Value.int Go.IntKind.i32 0) false := ⟨Tryd.underlying186, Tryd.sizeOf186, Tryd.zeroValue186, Tryd.isAgg186⟩
instance : TI Go.Proofs.Tryd.prog 187 (Go.TypeDesc.struct #[{ name := "Size_", type := 12, offset := 0, embedded := Bool.false, tag := "", pkgPath := "", byteOffset := 0 }, { name := "PtrBytes", type := 12, offset := 1, embedded := Bool.false, tag := "", pkgPath := "", byteOffset := 8 }, { name := "Hash", type := 169, offset := 2, embedded := Bool.false, tag := "", pkgPath := "", byteOffset := 16 }, { name := "TFlag", type := 182, offset := 3, embedded := Bool.false, tag := "", pkgPath := "", byteOffset := 20 }, { name := "Align_", type := 5, offset := 4, embedded := Bool.false, tag := "", pkgPath := "", byteOffset := 21 }, { name := "FieldAlign_", type := 5, offset := 5, embedded := Bool.false, tag := "", pkgPath := "", byteOffset := 22 }, { name := "Kind_", type := 183, offset := 6, embedded := Bool.false, tag := "", pkgPath := "", byteOffset := 23 }, { name := "Equal", type := 184, offset := 7, embedded := Bool.false, tag := "", pkgPath := "", byteOffset := 24 }, { name := "GCData", type := 157, offset := 8, embedded := Bool.false, tag := "", pkgPath := "", byteOffset := 32 }, { name := "Str", type := 185, offset := 9, embedded := Bool.false, tag := "", pkgPath := "", byteOffset := 40 }, { name := "PtrToThis", type := 186, offset := 10, embedded := Bool.false, tag := "", pkgPath := "", byteOffset := 44 }]) 11 (Go.Value.agg #[Go.Value.int Go.IntKind.u64 0, Go.Value.int Go.IntKind.u64 0, Go.Value.int Go.IntKind.u32 0, Go.Value.int Go.IntKind.u8 0, Go.Value.int Go.IntKind.u8 0, Go.Value.int Go.IntKind.u8 0, Go.Value.int Go.IntKind.u8 0, Go.Value.nilFunc, Go.Value.pointer Option.none, Go.Value.int Go.IntKind.i32 0, Go.Value.int Go.IntKind.i32 0]) true := ⟨Tryd.underlying187, Tryd.sizeOf187, Tryd.zeroValue187, Tryd.isAgg187⟩
instance : SP Go.Proofs.Tryd.prog 187 #[{ name := "Size_", type := 12, offset := 0, embedded := Bool.false, tag := "", pkgPath := "", byteOffset := 0 }, { name := "PtrBytes", type := 12, offset := 1, embedded := Bool.false, tag := "", pkgPath := "", byteOffset := 8 }, { name := "Hash", type := 169, offset := 2, embedded := Bool.false, tag := "", pkgPath := "", byteOffset := 16 }, { name := "TFlag", type := 182, offset := 3, embedded := Bool.false, tag := "", pkgPath := "", byteOffset := 20 }, { name := "Align_", type := 5, offset := 4, embedded := Bool.false, tag := "", pkgPath := "", byteOffset := 21 }, { name := "FieldAlign_", type := 5, offset := 5, embedded := Bool.false, tag := "", pkgPath := "", byteOffset := 22 }, { name := "Kind_", type := 183, offset := 6, embedded := Bool.false, tag := "", pkgPath := "", byteOffset := 23 }, { name := "Equal", type := 184, offset := 7, embedded := Bool.false, tag := "", pkgPath := "", byteOffset := 24 }, { name := "GCData", type := 157, offset := 8, embedded := Bool.false, tag := "", pkgPath := "", byteOffset := 32 }, { name := "Str", type := 185, offset := 9, embedded := Bool.false, tag := "", pkgPath := "", byteOffset := 40 }, { name := "PtrToThis", type := 186, offset := 10, embedded := Bool.false, tag := "", pkgPath := "", byteOffset := 44 }] (List.toArray [(0, 1), (1, 1), (2, 1), (3, 1), (4, 1), (5, 1), (6, 1), (7, 1), (8, 1), (9, 1), (10, 1)]) := ⟨Tryd.underlying187, fun _ => by kernel_rfl⟩
instance : FA Go.Proofs.Tryd.prog 187 0 0 := ⟨fun _ _ _ => by kernel_rfl⟩
instance : FA Go.Proofs.Tryd.prog 187 1 1 := ⟨fun _ _ _ => by kernel_rfl⟩
instance : FA Go.Proofs.Tryd.prog 187 2 2 := ⟨fun _ _ _ => by kernel_rfl⟩
instance : FA Go.Proofs.Tryd.prog 187 3 3 := ⟨fun _ _ _ => by kernel_rfl⟩
instance : FA Go.Proofs.Tryd.prog 187 4 4 := ⟨fun _ _ _ => by kernel_rfl⟩
instance : FA Go.Proofs.Tryd.prog 187 5 5 := ⟨fun _ _ _ => by kernel_rfl⟩
instance : FA Go.Proofs.Tryd.prog 187 6 6 := ⟨fun _ _ _ => by kernel_rfl⟩
instance : FA Go.Proofs.Tryd.prog 187 7 7 := ⟨fun _ _ _ => by kernel_rfl⟩
instance : FA Go.Proofs.Tryd.prog 187 8 8 := ⟨fun _ _ _ => by kernel_rfl⟩
instance : FA Go.Proofs.Tryd.prog 187 9 9 := ⟨fun _ _ _ => by kernel_rfl⟩
instance : FA Go.Proofs.Tryd.prog 187 10 10 := ⟨fun _ _ _ => by kernel_rfl⟩
instance : TI Go.Proofs.Tryd.prog 188 (Go.TypeDesc.struct #[{ name := "Size_", type := 12, offset := 0, embedded := Bool.false, tag := "", pkgPath := "", byteOffset := 0 }, { name := "PtrBytes", type := 12, offset := 1, embedded := Bool.false, tag := "", pkgPath := "", byteOffset := 8 }, { name := "Hash", type := 169, offset := 2, embedded := Bool.false, tag := "", pkgPath := "", byteOffset := 16 }, { name := "TFlag", type := 182, offset := 3, embedded := Bool.false, tag := "", pkgPath := "", byteOffset := 20 }, { name := "Align_", type := 5, offset := 4, embedded := Bool.false, tag := "", pkgPath := "", byteOffset := 21 }, { name := "FieldAlign_", type := 5, offset := 5, embedded := Bool.false, tag := "", pkgPath := "", byteOffset := 22 }, { name := "Kind_", type := 183, offset := 6, embedded := Bool.false, tag := "", pkgPath := "", byteOffset := 23 }, { name := "Equal", type := 184, offset := 7, embedded := Bool.false, tag := "", pkgPath := "", byteOffset := 24 }, { name := "GCData", type := 157, offset := 8, embedded := Bool.false, tag := "", pkgPath := "", byteOffset := 32 }, { name := "Str", type := 185, offset := 9, embedded := Bool.false, tag := "", pkgPath := "", byteOffset := 40 }, { name := "PtrToThis", type := 186, offset := 10, embedded := Bool.false, tag := "", pkgPath := "", byteOffset := 44 }]) 11 (Go.Value.agg #[Go.Value.int Go.IntKind.u64 0, Go.Value.int Go.IntKind.u64 0, Go.Value.int Go.IntKind.u32 0, Go.Value.int Go.IntKind.u8 0, Go.Value.int Go.IntKind.u8 0, Go.Value.int Go.IntKind.u8 0, Go.Value.int Go.IntKind.u8 0, Go.Value.nilFunc, Go.Value.pointer Option.none, Go.Value.int Go.IntKind.i32 0, Go.Value.int Go.IntKind.i32 0]) true := ⟨Tryd.underlying188, Tryd.sizeOf188, Tryd.zeroValue188, Tryd.isAgg188⟩
instance : SP Go.Proofs.Tryd.prog 188 #[{ name := "Size_", type := 12, offset := 0, embedded := Bool.false, tag := "", pkgPath := "", byteOffset := 0 }, { name := "PtrBytes", type := 12, offset := 1, embedded := Bool.false, tag := "", pkgPath := "", byteOffset := 8 }, { name := "Hash", type := 169, offset := 2, embedded := Bool.false, tag := "", pkgPath := "", byteOffset := 16 }, { name := "TFlag", type := 182, offset := 3, embedded := Bool.false, tag := "", pkgPath := "", byteOffset := 20 }, { name := "Align_", type := 5, offset := 4, embedded := Bool.false, tag := "", pkgPath := "", byteOffset := 21 }, { name := "FieldAlign_", type := 5, offset := 5, embedded := Bool.false, tag := "", pkgPath := "", byteOffset := 22 }, { name := "Kind_", type := 183, offset := 6, embedded := Bool.false, tag := "", pkgPath := "", byteOffset := 23 }, { name := "Equal", type := 184, offset := 7, embedded := Bool.false, tag := "", pkgPath := "", byteOffset := 24 }, { name := "GCData", type := 157, offset := 8, embedded := Bool.false, tag := "", pkgPath := "", byteOffset := 32 }, { name := "Str", type := 185, offset := 9, embedded := Bool.false, tag := "", pkgPath := "", byteOffset := 40 }, { name := "PtrToThis", type := 186, offset := 10, embedded := Bool.false, tag := "", pkgPath := "", byteOffset := 44 }] (List.toArray [(0, 1), (1, 1), (2, 1), (3, 1), (4, 1), (5, 1), (6, 1), (7, 1), (8, 1), (9, 1), (10, 1)]) := ⟨Tryd.underlying188, fun _ => by kernel_rfl⟩
instance : FA Go.Proofs.Tryd.prog 188 0 0 := ⟨fun _ _ _ => by kernel_rfl⟩
instance : FA Go.Proofs.Tryd.prog 188 1 1 := ⟨fun _ _ _ => by kernel_rfl⟩
instance : FA Go.Proofs.Tryd.prog 188 2 2 := ⟨fun _ _ _ => by kernel_rfl⟩
instance : FA Go.Proofs.Tryd.prog 188 3 3 := ⟨fun _ _ _ => by kernel_rfl⟩
instance : FA Go.Proofs.Tryd.prog 188 4 4 := ⟨fun _ _ _ => by kernel_rfl⟩
instance : FA Go.Proofs.Tryd.prog 188 5 5 := ⟨fun _ _ _ => by kernel_rfl⟩
instance : FA Go.Proofs.Tryd.prog 188 6 6 := ⟨fun _ _ _ => by kernel_rfl⟩
instance : FA Go.Proofs.Tryd.prog 188 7 7 := ⟨fun _ _ _ => by kernel_rfl⟩
instance : FA Go.Proofs.Tryd.prog 188 8 8 := ⟨fun _ _ _ => by kernel_rfl⟩
instance : FA Go.Proofs.Tryd.prog 188 9 9 := ⟨fun _ _ _ => by kernel_rfl⟩
instance : FA Go.Proofs.Tryd.prog 188 10 10 := ⟨fun _ _ _ => by kernel_rfl⟩
instance : Mixed Go.Proofs.Tryd.prog := ⟨by kernel_rfl⟩
instance : CF Go.Proofs.Tryd.prog 2 := ⟨Tryd.call2⟩
instance : CF Go.Proofs.Tryd.prog 3 := ⟨Tryd.call3⟩
instance : CF Go.Proofs.Tryd.prog 4 := ⟨Tryd.call4⟩
instance : CF Go.Proofs.Tryd.prog 5 := ⟨Tryd.call5⟩
instance : CF Go.Proofs.Tryd.prog 6 := ⟨Tryd.call6⟩
instance : CF Go.Proofs.Tryd.prog 7 := ⟨Tryd.call7⟩
instance : CF Go.Proofs.Tryd.prog 8 := ⟨Tryd.call8⟩
instance : CF Go.Proofs.Tryd.prog 9 := ⟨Tryd.call9⟩
instance : CF Go.Proofs.Tryd.prog 10 := ⟨Tryd.call10⟩
instance : CF Go.Proofs.Tryd.prog 11 := ⟨Tryd.call11⟩
instance : CF Go.Proofs.Tryd.prog 12 := ⟨Tryd.call12⟩
instance : CF Go.Proofs.Tryd.prog 13 := ⟨Tryd.call13⟩
instance : CF Go.Proofs.Tryd.prog 14 := ⟨Tryd.call14⟩
instance : CF Go.Proofs.Tryd.prog 15 := ⟨Tryd.call15⟩
instance : CF Go.Proofs.Tryd.prog 16 := ⟨Tryd.call16⟩
instance : CF Go.Proofs.Tryd.prog 17 := ⟨Tryd.call17⟩
instance : CF Go.Proofs.Tryd.prog 18 := ⟨Tryd.call18⟩
instance : CF Go.Proofs.Tryd.prog 19 := ⟨Tryd.call19⟩
instance : CF Go.Proofs.Tryd.prog 20 := ⟨Tryd.call20⟩
instance : CF Go.Proofs.Tryd.prog 21 := ⟨Tryd.call21⟩
instance : CF Go.Proofs.Tryd.prog 22 := ⟨Tryd.call22⟩
instance : CF Go.Proofs.Tryd.prog 23 := ⟨Tryd.call23⟩
instance : CF Go.Proofs.Tryd.prog 24 := ⟨Tryd.call24⟩
instance : CF Go.Proofs.Tryd.prog 25 := ⟨Tryd.call25⟩
instance : CF Go.Proofs.Tryd.prog 26 := ⟨Tryd.call26⟩
instance : CF Go.Proofs.Tryd.prog 27 := ⟨Tryd.call27⟩
instance : CF Go.Proofs.Tryd.prog 28 := ⟨Tryd.call28⟩
instance : CF Go.Proofs.Tryd.prog 29 := ⟨Tryd.call29⟩
instance : CF Go.Proofs.Tryd.prog 30 := ⟨Tryd.call30⟩
instance : CF Go.Proofs.Tryd.prog 31 := ⟨Tryd.call31⟩
instance : CF Go.Proofs.Tryd.prog 32 := ⟨Tryd.call32⟩
instance : CF Go.Proofs.Tryd.prog 33 := ⟨Tryd.call33⟩
instance : CF Go.Proofs.Tryd.prog 34 := ⟨Tryd.call34⟩
instance : CF Go.Proofs.Tryd.prog 35 := ⟨Tryd.call35⟩
instance : CF Go.Proofs.Tryd.prog 36 := ⟨Tryd.call36⟩
instance : CF Go.Proofs.Tryd.prog 37 := ⟨Tryd.call37⟩
instance : CF Go.Proofs.Tryd.prog 38 := ⟨Tryd.call38⟩
instance : CF Go.Proofs.Tryd.prog 39 := ⟨Tryd.call39⟩
instance : CF Go.Proofs.Tryd.prog 40 := ⟨Tryd.call40⟩
instance : CF Go.Proofs.Tryd.prog 41 := ⟨Tryd.call41⟩
instance : CF Go.Proofs.Tryd.prog 42 := ⟨Tryd.call42⟩
instance : CF Go.Proofs.Tryd.prog 43 := ⟨Tryd.call43⟩
instance : CF Go.Proofs.Tryd.prog 44 := ⟨Tryd.call44⟩
instance : CF Go.Proofs.Tryd.prog 45 := ⟨Tryd.call45⟩
instance : CF Go.Proofs.Tryd.prog 46 := ⟨Tryd.call46⟩
instance : CF Go.Proofs.Tryd.prog 47 := ⟨Tryd.call47⟩
instance : CF Go.Proofs.Tryd.prog 48 := ⟨Tryd.call48⟩
instance : CF Go.Proofs.Tryd.prog 49 := ⟨Tryd.call49⟩
instance : CF Go.Proofs.Tryd.prog 50 := ⟨Tryd.call50⟩
instance : CF Go.Proofs.Tryd.prog 51 := ⟨Tryd.call51⟩
instance : CF Go.Proofs.Tryd.prog 52 := ⟨Tryd.call52⟩
instance : CF Go.Proofs.Tryd.prog 53 := ⟨Tryd.call53⟩
instance : CF Go.Proofs.Tryd.prog 54 := ⟨Tryd.call54⟩
instance : CF Go.Proofs.Tryd.prog 55 := ⟨Tryd.call55⟩
instance : CF Go.Proofs.Tryd.prog 56 := ⟨Tryd.call56⟩
instance : CF Go.Proofs.Tryd.prog 57 := ⟨Tryd.call57⟩
instance : CF Go.Proofs.Tryd.prog 58 := ⟨Tryd.call58⟩
instance : CF Go.Proofs.Tryd.prog 59 := ⟨Tryd.call59⟩
instance : CF Go.Proofs.Tryd.prog 60 := ⟨Tryd.call60⟩
instance : CF Go.Proofs.Tryd.prog 61 := ⟨Tryd.call61⟩
instance : CF Go.Proofs.Tryd.prog 62 := ⟨Tryd.call62⟩
instance : CF Go.Proofs.Tryd.prog 63 := ⟨Tryd.call63⟩
instance : CF Go.Proofs.Tryd.prog 64 := ⟨Tryd.call64⟩
instance : CF Go.Proofs.Tryd.prog 65 := ⟨Tryd.call65⟩
instance : CF Go.Proofs.Tryd.prog 66 := ⟨Tryd.call66⟩
instance : CF Go.Proofs.Tryd.prog 67 := ⟨Tryd.call67⟩
instance : CF Go.Proofs.Tryd.prog 68 := ⟨Tryd.call68⟩
instance : CF Go.Proofs.Tryd.prog 69 := ⟨Tryd.call69⟩
instance : CF Go.Proofs.Tryd.prog 70 := ⟨Tryd.call70⟩
instance : CF Go.Proofs.Tryd.prog 71 := ⟨Tryd.call71⟩
instance : CF Go.Proofs.Tryd.prog 72 := ⟨Tryd.call72⟩
instance : CF Go.Proofs.Tryd.prog 73 := ⟨Tryd.call73⟩
instance : CF Go.Proofs.Tryd.prog 74 := ⟨Tryd.call74⟩
instance : CF Go.Proofs.Tryd.prog 75 := ⟨Tryd.call75⟩
instance : CF Go.Proofs.Tryd.prog 76 := ⟨Tryd.call76⟩
instance : CF Go.Proofs.Tryd.prog 77 := ⟨Tryd.call77⟩
instance : CF Go.Proofs.Tryd.prog 78 := ⟨Tryd.call78⟩
instance : CF Go.Proofs.Tryd.prog 79 := ⟨Tryd.call79⟩
instance : CF Go.Proofs.Tryd.prog 82 := ⟨Tryd.call82⟩
instance : CF Go.Proofs.Tryd.prog 83 := ⟨Tryd.call83⟩
instance : CF Go.Proofs.Tryd.prog 84 := ⟨Tryd.call84⟩
instance : CF Go.Proofs.Tryd.prog 85 := ⟨Tryd.call85⟩
instance : CF Go.Proofs.Tryd.prog 86 := ⟨Tryd.call86⟩
instance : CF Go.Proofs.Tryd.prog 87 := ⟨Tryd.call87⟩
instance : CF Go.Proofs.Tryd.prog 88 := ⟨Tryd.call88⟩
instance : CF Go.Proofs.Tryd.prog 111 := ⟨Tryd.call111⟩
end Go.Proofs.YtfookachkcgdpaaDoor
