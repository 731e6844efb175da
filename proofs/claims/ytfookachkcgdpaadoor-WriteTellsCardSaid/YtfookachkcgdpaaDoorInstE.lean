/- What the engine asks of each type and function: closed facts, written by a program of this work. No condition. -/
import Derived.Test.YtfookachkcgdpaaDoorMore2
import Derived.Test.YtfookachkcgdpaaDoorProg
import Derived.KernelRfl
set_option maxRecDepth 100000
set_option linter.unusedVariables false
namespace Go.Proofs.YtfookachkcgdpaaDoor
open Go.Proofs

instance : EI Go.Proofs.Tryd.prog 0 1 (Go.Value.tuple #[]) := ⟨by kernel_rfl⟩
instance : EI Go.Proofs.Tryd.prog 1 1 Go.Value.nilFunc := ⟨by kernel_rfl⟩
instance : EI Go.Proofs.Tryd.prog 2 1 (Go.Value.int Go.IntKind.i64 0) := ⟨by kernel_rfl⟩
instance : EI Go.Proofs.Tryd.prog 3 1 (Go.Value.int Go.IntKind.i64 0) := ⟨by kernel_rfl⟩
instance : EI Go.Proofs.Tryd.prog 4 1 (Go.Value.bool Bool.false) := ⟨by kernel_rfl⟩
instance : EI Go.Proofs.Tryd.prog 5 1 (Go.Value.int Go.IntKind.u8 0) := ⟨by kernel_rfl⟩
instance : EI Go.Proofs.Tryd.prog 6 1 (Go.Value.int Go.IntKind.u8 0) := ⟨by kernel_rfl⟩
instance : EI Go.Proofs.Tryd.prog 7 4 (Go.Value.agg #[Go.Value.int Go.IntKind.i64 0, Go.Value.int Go.IntKind.i64 0, Go.Value.bool Bool.false, Go.Value.int Go.IntKind.u8 0]) := ⟨by kernel_rfl⟩
instance : EI Go.Proofs.Tryd.prog 8 4 (Go.Value.agg #[Go.Value.int Go.IntKind.i64 0, Go.Value.int Go.IntKind.i64 0, Go.Value.bool Bool.false, Go.Value.int Go.IntKind.u8 0]) := ⟨by kernel_rfl⟩
instance : EI Go.Proofs.Tryd.prog 9 1 (Go.Value.string { data := #[] }) := ⟨by kernel_rfl⟩
instance : EI Go.Proofs.Tryd.prog 10 1 (Go.Value.string { data := #[] }) := ⟨by kernel_rfl⟩
instance : EI Go.Proofs.Tryd.prog 11 1 (Go.Value.string { data := #[] }) := ⟨by kernel_rfl⟩
instance : EI Go.Proofs.Tryd.prog 12 1 (Go.Value.int Go.IntKind.u64 0) := ⟨by kernel_rfl⟩
instance : EI Go.Proofs.Tryd.prog 13 2 (Go.Value.agg #[Go.Value.string { data := #[] }, Go.Value.int Go.IntKind.u64 0]) := ⟨by kernel_rfl⟩
instance : EI Go.Proofs.Tryd.prog 14 2 (Go.Value.agg #[Go.Value.string { data := #[] }, Go.Value.int Go.IntKind.u64 0]) := ⟨by kernel_rfl⟩
instance : EI Go.Proofs.Tryd.prog 15 1 (Go.Value.pointer Option.none) := ⟨by kernel_rfl⟩
instance : EI Go.Proofs.Tryd.prog 16 1 (Go.Value.pointer Option.none) := ⟨by kernel_rfl⟩
instance : EI Go.Proofs.Tryd.prog 17 1 (Go.Value.pointer Option.none) := ⟨by kernel_rfl⟩
instance : EI Go.Proofs.Tryd.prog 18 1 (Go.Value.agg #[Go.Value.pointer Option.none]) := ⟨by kernel_rfl⟩
instance : EI Go.Proofs.Tryd.prog 19 1 (Go.Value.agg #[Go.Value.pointer Option.none]) := ⟨by kernel_rfl⟩
instance : EI Go.Proofs.Tryd.prog 20 1 Go.Value.nilIface := ⟨by kernel_rfl⟩
instance : EI Go.Proofs.Tryd.prog 21 1 (Go.Value.int Go.IntKind.i32 0) := ⟨by kernel_rfl⟩
instance : EI Go.Proofs.Tryd.prog 22 1 (Go.Value.slice Option.none 0 0) := ⟨by kernel_rfl⟩
instance : EI Go.Proofs.Tryd.prog 23 1 (Go.Value.slice Option.none 0 0) := ⟨by kernel_rfl⟩
instance : EI Go.Proofs.Tryd.prog 24 2 (Go.Value.agg #[Go.Value.slice Option.none 0 0, Go.Value.slice Option.none 0 0]) := ⟨by kernel_rfl⟩
instance : EI Go.Proofs.Tryd.prog 25 2 (Go.Value.agg #[Go.Value.slice Option.none 0 0, Go.Value.slice Option.none 0 0]) := ⟨by kernel_rfl⟩
instance : EI Go.Proofs.Tryd.prog 26 1 Go.Value.nilIface := ⟨by kernel_rfl⟩
instance : EI Go.Proofs.Tryd.prog 27 1 (Go.Value.slice Option.none 0 0) := ⟨by kernel_rfl⟩
instance : EI Go.Proofs.Tryd.prog 28 4 (Go.Value.agg #[Go.Value.int Go.IntKind.i64 0, Go.Value.string { data := #[] }, Go.Value.int Go.IntKind.i64 0, Go.Value.slice Option.none 0 0]) := ⟨by kernel_rfl⟩
instance : EI Go.Proofs.Tryd.prog 29 4 (Go.Value.agg #[Go.Value.int Go.IntKind.i64 0, Go.Value.string { data := #[] }, Go.Value.int Go.IntKind.i64 0, Go.Value.slice Option.none 0 0]) := ⟨by kernel_rfl⟩
instance : EI Go.Proofs.Tryd.prog 30 1 (Go.Value.tuple #[Go.Value.nilIface, Go.Value.agg #[Go.Value.int Go.IntKind.i64 0, Go.Value.string { data := #[] }, Go.Value.int Go.IntKind.i64 0, Go.Value.slice Option.none 0 0]]) := ⟨by kernel_rfl⟩
instance : EI Go.Proofs.Tryd.prog 31 1 Go.Value.nilFunc := ⟨by kernel_rfl⟩
instance : EI Go.Proofs.Tryd.prog 32 1 Go.Value.nilIface := ⟨by kernel_rfl⟩
instance : EI Go.Proofs.Tryd.prog 33 1 (Go.Value.tuple #[Go.Value.nilIface, Go.Value.agg #[Go.Value.int Go.IntKind.i64 0, Go.Value.string { data := #[] }, Go.Value.int Go.IntKind.i64 0, Go.Value.slice Option.none 0 0]]) := ⟨by kernel_rfl⟩
instance : EI Go.Proofs.Tryd.prog 34 1 Go.Value.nilFunc := ⟨by kernel_rfl⟩
instance : EI Go.Proofs.Tryd.prog 35 1 (Go.Value.int Go.IntKind.i64 0) := ⟨by kernel_rfl⟩
instance : EI Go.Proofs.Tryd.prog 36 1 (Go.Value.tuple #[Go.Value.string { data := #[] }, Go.Value.int Go.IntKind.i64 0]) := ⟨by kernel_rfl⟩
instance : EI Go.Proofs.Tryd.prog 37 1 Go.Value.nilFunc := ⟨by kernel_rfl⟩
instance : EI Go.Proofs.Tryd.prog 38 1 Go.Value.nilFunc := ⟨by kernel_rfl⟩
instance : EI Go.Proofs.Tryd.prog 39 1 Go.Value.nilFunc := ⟨by kernel_rfl⟩
instance : EI Go.Proofs.Tryd.prog 40 1 Go.Value.nilFunc := ⟨by kernel_rfl⟩
instance : EI Go.Proofs.Tryd.prog 41 1 Go.Value.nilFunc := ⟨by kernel_rfl⟩
instance : EI Go.Proofs.Tryd.prog 42 1 Go.Value.nilFunc := ⟨by kernel_rfl⟩
instance : EI Go.Proofs.Tryd.prog 43 1 Go.Value.nilFunc := ⟨by kernel_rfl⟩
instance : EI Go.Proofs.Tryd.prog 44 1 Go.Value.nilFunc := ⟨by kernel_rfl⟩
instance : EI Go.Proofs.Tryd.prog 45 1 Go.Value.nilFunc := ⟨by kernel_rfl⟩
instance : EI Go.Proofs.Tryd.prog 46 1 Go.Value.nilFunc := ⟨by kernel_rfl⟩
instance : EI Go.Proofs.Tryd.prog 47 2 (Go.Value.agg #[Go.Value.nilIface, Go.Value.nilIface]) := ⟨by kernel_rfl⟩
instance : EI Go.Proofs.Tryd.prog 48 2 (Go.Value.agg #[Go.Value.nilIface, Go.Value.nilIface]) := ⟨by kernel_rfl⟩
instance : EI Go.Proofs.Tryd.prog 49 2 (Go.Value.agg #[Go.Value.nilIface, Go.Value.nilIface]) := ⟨by kernel_rfl⟩
instance : EI Go.Proofs.Tryd.prog 50 2 (Go.Value.agg #[Go.Value.nilIface, Go.Value.nilIface]) := ⟨by kernel_rfl⟩
instance : EI Go.Proofs.Tryd.prog 51 1 Go.Value.nilFunc := ⟨by kernel_rfl⟩
instance : EI Go.Proofs.Tryd.prog 52 1 Go.Value.nilFunc := ⟨by kernel_rfl⟩
instance : EI Go.Proofs.Tryd.prog 53 2 (Go.Value.agg #[Go.Value.nilIface, Go.Value.nilIface]) := ⟨by kernel_rfl⟩
instance : EI Go.Proofs.Tryd.prog 54 2 (Go.Value.agg #[Go.Value.nilIface, Go.Value.nilIface]) := ⟨by kernel_rfl⟩
instance : EI Go.Proofs.Tryd.prog 55 1 Go.Value.nilFunc := ⟨by kernel_rfl⟩
instance : EI Go.Proofs.Tryd.prog 56 1 Go.Value.nilFunc := ⟨by kernel_rfl⟩
instance : EI Go.Proofs.Tryd.prog 57 1 Go.Value.nilFunc := ⟨by kernel_rfl⟩
instance : EI Go.Proofs.Tryd.prog 58 1 Go.Value.nilFunc := ⟨by kernel_rfl⟩
instance : EI Go.Proofs.Tryd.prog 59 1 Go.Value.nilFunc := ⟨by kernel_rfl⟩
instance : EI Go.Proofs.Tryd.prog 60 1 Go.Value.nilFunc := ⟨by kernel_rfl⟩
instance : EI Go.Proofs.Tryd.prog 61 1 Go.Value.nilFunc := ⟨by kernel_rfl⟩
instance : EI Go.Proofs.Tryd.prog 62 1 Go.Value.nilFunc := ⟨by kernel_rfl⟩
instance : EI Go.Proofs.Tryd.prog 63 1 (Go.Value.agg #[Go.Value.int Go.IntKind.i64 0]) := ⟨by kernel_rfl⟩
instance : EI Go.Proofs.Tryd.prog 64 1 (Go.Value.agg #[Go.Value.int Go.IntKind.i64 0]) := ⟨by kernel_rfl⟩
instance : EI Go.Proofs.Tryd.prog 65 1 (Go.Value.agg #[Go.Value.string { data := #[] }]) := ⟨by kernel_rfl⟩
instance : EI Go.Proofs.Tryd.prog 66 1 (Go.Value.agg #[Go.Value.string { data := #[] }]) := ⟨by kernel_rfl⟩
instance : EI Go.Proofs.Tryd.prog 67 1 (Go.Value.pointer Option.none) := ⟨by kernel_rfl⟩
instance : EI Go.Proofs.Tryd.prog 68 5 (Go.Value.agg #[Go.Value.slice Option.none 0 0, Go.Value.slice Option.none 0 0, Go.Value.int Go.IntKind.i64 0, Go.Value.int Go.IntKind.i64 0, Go.Value.int Go.IntKind.i64 0]) := ⟨by kernel_rfl⟩
instance : EI Go.Proofs.Tryd.prog 69 5 (Go.Value.agg #[Go.Value.slice Option.none 0 0, Go.Value.slice Option.none 0 0, Go.Value.int Go.IntKind.i64 0, Go.Value.int Go.IntKind.i64 0, Go.Value.int Go.IntKind.i64 0]) := ⟨by kernel_rfl⟩
instance : EI Go.Proofs.Tryd.prog 70 1 Go.Value.nilFunc := ⟨by kernel_rfl⟩
instance : EI Go.Proofs.Tryd.prog 71 1 (Go.Value.tuple #[Go.Value.int Go.IntKind.i64 0, Go.Value.int Go.IntKind.i64 0]) := ⟨by kernel_rfl⟩
instance : EI Go.Proofs.Tryd.prog 72 1 Go.Value.nilFunc := ⟨by kernel_rfl⟩
instance : EI Go.Proofs.Tryd.prog 73 1 (Go.Value.tuple #[Go.Value.agg #[Go.Value.int Go.IntKind.i64 0, Go.Value.string { data := #[] }, Go.Value.int Go.IntKind.i64 0, Go.Value.slice Option.none 0 0], Go.Value.int Go.IntKind.i64 0]) := ⟨by kernel_rfl⟩
instance : EI Go.Proofs.Tryd.prog 74 1 Go.Value.nilFunc := ⟨by kernel_rfl⟩
instance : EI Go.Proofs.Tryd.prog 75 0 (Go.Value.agg #[]) := ⟨by kernel_rfl⟩
instance : EI Go.Proofs.Tryd.prog 76 0 (Go.Value.agg #[]) := ⟨by kernel_rfl⟩
instance : EI Go.Proofs.Tryd.prog 77 1 (Go.Value.agg #[Go.Value.nilIface]) := ⟨by kernel_rfl⟩
instance : EI Go.Proofs.Tryd.prog 78 1 (Go.Value.agg #[Go.Value.nilIface]) := ⟨by kernel_rfl⟩
instance : EI Go.Proofs.Tryd.prog 79 3 (Go.Value.agg #[Go.Value.string { data := #[] }, Go.Value.nilIface, Go.Value.nilIface]) := ⟨by kernel_rfl⟩
instance : EI Go.Proofs.Tryd.prog 80 3 (Go.Value.agg #[Go.Value.string { data := #[] }, Go.Value.nilIface, Go.Value.nilIface]) := ⟨by kernel_rfl⟩
instance : EI Go.Proofs.Tryd.prog 81 2 (Go.Value.agg #[Go.Value.int Go.IntKind.i64 0, Go.Value.nilIface]) := ⟨by kernel_rfl⟩
instance : EI Go.Proofs.Tryd.prog 82 2 (Go.Value.agg #[Go.Value.int Go.IntKind.i64 0, Go.Value.nilIface]) := ⟨by kernel_rfl⟩
instance : EI Go.Proofs.Tryd.prog 83 3 (Go.Value.agg #[Go.Value.nilIface, Go.Value.nilIface, Go.Value.nilIface]) := ⟨by kernel_rfl⟩
instance : EI Go.Proofs.Tryd.prog 84 3 (Go.Value.agg #[Go.Value.nilIface, Go.Value.nilIface, Go.Value.nilIface]) := ⟨by kernel_rfl⟩
instance : EI Go.Proofs.Tryd.prog 85 1 (Go.Value.pointer Option.none) := ⟨by kernel_rfl⟩
instance : EI Go.Proofs.Tryd.prog 86 3 (Go.Value.agg #[Go.Value.int Go.IntKind.i64 0, Go.Value.string { data := #[] }, Go.Value.int Go.IntKind.i64 0]) := ⟨by kernel_rfl⟩
instance : EI Go.Proofs.Tryd.prog 87 3 (Go.Value.agg #[Go.Value.int Go.IntKind.i64 0, Go.Value.string { data := #[] }, Go.Value.int Go.IntKind.i64 0]) := ⟨by kernel_rfl⟩
instance : EI Go.Proofs.Tryd.prog 88 1 (Go.Value.map Option.none) := ⟨by kernel_rfl⟩
instance : EI Go.Proofs.Tryd.prog 89 1 (Go.Value.pointer Option.none) := ⟨by kernel_rfl⟩
instance : EI Go.Proofs.Tryd.prog 90 1 (Go.Value.slice Option.none 0 0) := ⟨by kernel_rfl⟩
instance : EI Go.Proofs.Tryd.prog 91 1 Go.Value.nilFunc := ⟨by kernel_rfl⟩
instance : EI Go.Proofs.Tryd.prog 92 1 (Go.Value.agg #[Go.Value.string { data := #[] }]) := ⟨by kernel_rfl⟩
instance : EI Go.Proofs.Tryd.prog 93 1 (Go.Value.agg #[Go.Value.string { data := #[] }]) := ⟨by kernel_rfl⟩
instance : EI Go.Proofs.Tryd.prog 94 1 (Go.Value.agg #[Go.Value.nilIface]) := ⟨by kernel_rfl⟩
instance : EI Go.Proofs.Tryd.prog 95 1 (Go.Value.agg #[Go.Value.nilIface]) := ⟨by kernel_rfl⟩
instance : EI Go.Proofs.Tryd.prog 96 2 (Go.Value.agg #[Go.Value.nilIface, Go.Value.nilIface]) := ⟨by kernel_rfl⟩
instance : EI Go.Proofs.Tryd.prog 97 2 (Go.Value.agg #[Go.Value.nilIface, Go.Value.nilIface]) := ⟨by kernel_rfl⟩
instance : EI Go.Proofs.Tryd.prog 98 1 Go.Value.nilFunc := ⟨by kernel_rfl⟩
instance : EI Go.Proofs.Tryd.prog 99 1 Go.Value.nilFunc := ⟨by kernel_rfl⟩
instance : EI Go.Proofs.Tryd.prog 100 1 Go.Value.nilFunc := ⟨by kernel_rfl⟩
instance : EI Go.Proofs.Tryd.prog 101 1 Go.Value.nilFunc := ⟨by kernel_rfl⟩
instance : EI Go.Proofs.Tryd.prog 102 1 Go.Value.nilFunc := ⟨by kernel_rfl⟩
instance : EI Go.Proofs.Tryd.prog 103 1 Go.Value.nilFunc := ⟨by kernel_rfl⟩
instance : EI Go.Proofs.Tryd.prog 104 1 Go.Value.nilFunc := ⟨by kernel_rfl⟩
instance : EI Go.Proofs.Tryd.prog 105 1 Go.Value.nilFunc := ⟨by kernel_rfl⟩
instance : EI Go.Proofs.Tryd.prog 106 1 Go.Value.nilFunc := ⟨by kernel_rfl⟩
instance : EI Go.Proofs.Tryd.prog 107 1 Go.Value.nilFunc := ⟨by kernel_rfl⟩
instance : EI Go.Proofs.Tryd.prog 108 1 Go.Value.nilFunc := ⟨by kernel_rfl⟩
instance : EI Go.Proofs.Tryd.prog 109 1 Go.Value.nilFunc := ⟨by kernel_rfl⟩
instance : EI Go.Proofs.Tryd.prog 110 1 Go.Value.nilFunc := ⟨by kernel_rfl⟩
instance : EI Go.Proofs.Tryd.prog 111 1 (Go.Value.tuple #[Go.Value.string { data := #[] }, Go.Value.int Go.IntKind.i64 0]) := ⟨by kernel_rfl⟩
instance : EI Go.Proofs.Tryd.prog 112 1 Go.Value.nilFunc := ⟨by kernel_rfl⟩
instance : EI Go.Proofs.Tryd.prog 113 1 Go.Value.nilFunc := ⟨by kernel_rfl⟩
instance : EI Go.Proofs.Tryd.prog 114 1 Go.Value.nilFunc := ⟨by kernel_rfl⟩
instance : EI Go.Proofs.Tryd.prog 115 1 (Go.Value.tuple #[Go.Value.nilIface, Go.Value.bool Bool.false]) := ⟨by kernel_rfl⟩
instance : EI Go.Proofs.Tryd.prog 116 1 Go.Value.nilFunc := ⟨by kernel_rfl⟩
instance : EI Go.Proofs.Tryd.prog 117 1 Go.Value.nilFunc := ⟨by kernel_rfl⟩
instance : EI Go.Proofs.Tryd.prog 118 1 (Go.Value.slice Option.none 0 0) := ⟨by kernel_rfl⟩
instance : EI Go.Proofs.Tryd.prog 119 1 Go.Value.nilFunc := ⟨by kernel_rfl⟩
instance : EI Go.Proofs.Tryd.prog 120 1 (Go.Value.tuple #[Go.Value.agg #[Go.Value.string { data := #[] }, Go.Value.nilIface, Go.Value.nilIface], Go.Value.bool Bool.false]) := ⟨by kernel_rfl⟩
instance : EI Go.Proofs.Tryd.prog 121 1 Go.Value.nilFunc := ⟨by kernel_rfl⟩
instance : EI Go.Proofs.Tryd.prog 122 1 Go.Value.nilFunc := ⟨by kernel_rfl⟩
instance : EI Go.Proofs.Tryd.prog 123 1 Go.Value.nilFunc := ⟨by kernel_rfl⟩
instance : EI Go.Proofs.Tryd.prog 124 1 (Go.Value.slice Option.none 0 0) := ⟨by kernel_rfl⟩
instance : EI Go.Proofs.Tryd.prog 125 1 (Go.Value.tuple #[Go.Value.bool Bool.false, Go.Value.bool Bool.false]) := ⟨by kernel_rfl⟩
instance : EI Go.Proofs.Tryd.prog 126 1 Go.Value.nilFunc := ⟨by kernel_rfl⟩
instance : EI Go.Proofs.Tryd.prog 127 1 Go.Value.nilFunc := ⟨by kernel_rfl⟩
instance : EI Go.Proofs.Tryd.prog 128 1 (Go.Value.slice Option.none 0 0) := ⟨by kernel_rfl⟩
instance : EI Go.Proofs.Tryd.prog 129 1 Go.Value.nilFunc := ⟨by kernel_rfl⟩
instance : EI Go.Proofs.Tryd.prog 130 1 (Go.Value.tuple #[Go.Value.agg #[Go.Value.string { data := #[] }], Go.Value.bool Bool.false]) := ⟨by kernel_rfl⟩
instance : EI Go.Proofs.Tryd.prog 131 1 (Go.Value.tuple #[Go.Value.agg #[Go.Value.int Go.IntKind.i64 0, Go.Value.nilIface], Go.Value.bool Bool.false]) := ⟨by kernel_rfl⟩
instance : EI Go.Proofs.Tryd.prog 132 1 Go.Value.nilFunc := ⟨by kernel_rfl⟩
instance : EI Go.Proofs.Tryd.prog 133 1 (Go.Value.tuple #[Go.Value.agg #[Go.Value.nilIface, Go.Value.nilIface], Go.Value.bool Bool.false]) := ⟨by kernel_rfl⟩
instance : EI Go.Proofs.Tryd.prog 134 1 (Go.Value.tuple #[Go.Value.agg #[Go.Value.nilIface, Go.Value.nilIface, Go.Value.nilIface], Go.Value.bool Bool.false]) := ⟨by kernel_rfl⟩
instance : EI Go.Proofs.Tryd.prog 135 1 Go.Value.nilFunc := ⟨by kernel_rfl⟩
instance : EI Go.Proofs.Tryd.prog 136 1 (Go.Value.tuple #[Go.Value.agg #[Go.Value.nilIface], Go.Value.bool Bool.false]) := ⟨by kernel_rfl⟩
instance : EI Go.Proofs.Tryd.prog 137 1 (Go.Value.tuple #[Go.Value.agg #[Go.Value.nilIface, Go.Value.nilIface], Go.Value.bool Bool.false]) := ⟨by kernel_rfl⟩
instance : EI Go.Proofs.Tryd.prog 138 1 (Go.Value.pointer Option.none) := ⟨by kernel_rfl⟩
instance : EI Go.Proofs.Tryd.prog 139 2 (Go.Value.agg #[Go.Value.pointer Option.none, Go.Value.slice Option.none 0 0]) := ⟨by kernel_rfl⟩
instance : EI Go.Proofs.Tryd.prog 140 2 (Go.Value.agg #[Go.Value.pointer Option.none, Go.Value.slice Option.none 0 0]) := ⟨by kernel_rfl⟩
instance : EI Go.Proofs.Tryd.prog 141 1 Go.Value.nilFunc := ⟨by kernel_rfl⟩
instance : EI Go.Proofs.Tryd.prog 142 1 Go.Value.nilIface := ⟨by kernel_rfl⟩
instance : EI Go.Proofs.Tryd.prog 143 1 Go.Value.nilIface := ⟨by kernel_rfl⟩
instance : EI Go.Proofs.Tryd.prog 144 1 (Go.Value.tuple #[Go.Value.int Go.IntKind.i64 0, Go.Value.nilIface]) := ⟨by kernel_rfl⟩
instance : EI Go.Proofs.Tryd.prog 145 1 Go.Value.nilFunc := ⟨by kernel_rfl⟩
instance : EI Go.Proofs.Tryd.prog 146 1 Go.Value.nilFunc := ⟨by kernel_rfl⟩
instance : EI Go.Proofs.Tryd.prog 147 1 Go.Value.nilFunc := ⟨by kernel_rfl⟩
instance : EI Go.Proofs.Tryd.prog 148 1 (Go.Value.slice Option.none 0 0) := ⟨by kernel_rfl⟩
instance : EI Go.Proofs.Tryd.prog 149 1 Go.Value.nilFunc := ⟨by kernel_rfl⟩
instance : EI Go.Proofs.Tryd.prog 150 1 (Go.Value.tuple #[Go.Value.agg #[Go.Value.int Go.IntKind.i64 0], Go.Value.bool Bool.false]) := ⟨by kernel_rfl⟩
instance : EI Go.Proofs.Tryd.prog 151 1 (Go.Value.tuple #[Go.Value.agg #[Go.Value.string { data := #[] }], Go.Value.bool Bool.false]) := ⟨by kernel_rfl⟩
instance : EI Go.Proofs.Tryd.prog 152 1 Go.Value.nilFunc := ⟨by kernel_rfl⟩
instance : EI Go.Proofs.Tryd.prog 153 1 (Go.Value.tuple #[Go.Value.agg #[Go.Value.nilIface, Go.Value.nilIface], Go.Value.bool Bool.false]) := ⟨by kernel_rfl⟩
instance : EI Go.Proofs.Tryd.prog 154 1 (Go.Value.tuple #[Go.Value.agg #[Go.Value.nilIface, Go.Value.nilIface], Go.Value.bool Bool.false]) := ⟨by kernel_rfl⟩
instance : EI Go.Proofs.Tryd.prog 155 1 (Go.Value.tuple #[Go.Value.agg #[Go.Value.nilIface, Go.Value.nilIface], Go.Value.bool Bool.false]) := ⟨by kernel_rfl⟩
instance : EI Go.Proofs.Tryd.prog 156 1 (Go.Value.tuple #[Go.Value.agg #[Go.Value.nilIface], Go.Value.bool Bool.false]) := ⟨by kernel_rfl⟩
instance : EI Go.Proofs.Tryd.prog 157 1 (Go.Value.pointer Option.none) := ⟨by kernel_rfl⟩
instance : EI Go.Proofs.Tryd.prog 158 24 (Go.Value.agg #[Go.Value.int Go.IntKind.u8 0, Go.Value.int Go.IntKind.u8 0, Go.Value.int Go.IntKind.u8 0, Go.Value.int Go.IntKind.u8 0, Go.Value.int Go.IntKind.u8 0, Go.Value.int Go.IntKind.u8 0, Go.Value.int Go.IntKind.u8 0, Go.Value.int Go.IntKind.u8 0, Go.Value.int Go.IntKind.u8 0, Go.Value.int Go.IntKind.u8 0, Go.Value.int Go.IntKind.u8 0, Go.Value.int Go.IntKind.u8 0, Go.Value.int Go.IntKind.u8 0, Go.Value.int Go.IntKind.u8 0, Go.Value.int Go.IntKind.u8 0, Go.Value.int Go.IntKind.u8 0, Go.Value.int Go.IntKind.u8 0, Go.Value.int Go.IntKind.u8 0, Go.Value.int Go.IntKind.u8 0, Go.Value.int Go.IntKind.u8 0, Go.Value.int Go.IntKind.u8 0, Go.Value.int Go.IntKind.u8 0, Go.Value.int Go.IntKind.u8 0, Go.Value.int Go.IntKind.u8 0]) := ⟨by kernel_rfl⟩
instance : EI Go.Proofs.Tryd.prog 159 1 (Go.Value.int Go.IntKind.u64 0) := ⟨by kernel_rfl⟩
instance : EI Go.Proofs.Tryd.prog 160 1 Go.Value.nilFunc := ⟨by kernel_rfl⟩
instance : EI Go.Proofs.Tryd.prog 161 1 Go.Value.nilFunc := ⟨by kernel_rfl⟩
instance : EI Go.Proofs.Tryd.prog 162 1 (Go.Value.tuple #[Go.Value.slice Option.none 0 0, Go.Value.string { data := #[] }]) := ⟨by kernel_rfl⟩
instance : EI Go.Proofs.Tryd.prog 163 1 Go.Value.nilFunc := ⟨by kernel_rfl⟩
instance : EI Go.Proofs.Tryd.prog 165 1 Go.Value.nilFunc := ⟨by kernel_rfl⟩
instance : EI Go.Proofs.Tryd.prog 166 1 Go.Value.nilFunc := ⟨by kernel_rfl⟩
instance : EI Go.Proofs.Tryd.prog 167 1 Go.Value.nilFunc := ⟨by kernel_rfl⟩
instance : EI Go.Proofs.Tryd.prog 168 20 (Go.Value.agg #[Go.Value.int Go.IntKind.u64 0, Go.Value.int Go.IntKind.u64 0, Go.Value.int Go.IntKind.u64 0, Go.Value.int Go.IntKind.u64 0, Go.Value.int Go.IntKind.u64 0, Go.Value.int Go.IntKind.u64 0, Go.Value.int Go.IntKind.u64 0, Go.Value.int Go.IntKind.u64 0, Go.Value.int Go.IntKind.u64 0, Go.Value.int Go.IntKind.u64 0, Go.Value.int Go.IntKind.u64 0, Go.Value.int Go.IntKind.u64 0, Go.Value.int Go.IntKind.u64 0, Go.Value.int Go.IntKind.u64 0, Go.Value.int Go.IntKind.u64 0, Go.Value.int Go.IntKind.u64 0, Go.Value.int Go.IntKind.u64 0, Go.Value.int Go.IntKind.u64 0, Go.Value.int Go.IntKind.u64 0, Go.Value.int Go.IntKind.u64 0]) := ⟨by kernel_rfl⟩
instance : EI Go.Proofs.Tryd.prog 169 1 (Go.Value.int Go.IntKind.u32 0) := ⟨by kernel_rfl⟩
instance : EI Go.Proofs.Tryd.prog 171 1 (Go.Value.int Go.IntKind.u64 0) := ⟨by kernel_rfl⟩
instance : EI Go.Proofs.Tryd.prog 172 1 Go.Value.nilFunc := ⟨by kernel_rfl⟩
instance : EI Go.Proofs.Tryd.prog 173 1 Go.Value.nilFunc := ⟨by kernel_rfl⟩
instance : EI Go.Proofs.Tryd.prog 174 32 (Go.Value.agg #[Go.Value.int Go.IntKind.u8 0, Go.Value.int Go.IntKind.u8 0, Go.Value.int Go.IntKind.u8 0, Go.Value.int Go.IntKind.u8 0, Go.Value.int Go.IntKind.u8 0, Go.Value.int Go.IntKind.u8 0, Go.Value.int Go.IntKind.u8 0, Go.Value.int Go.IntKind.u8 0, Go.Value.int Go.IntKind.u8 0, Go.Value.int Go.IntKind.u8 0, Go.Value.int Go.IntKind.u8 0, Go.Value.int Go.IntKind.u8 0, Go.Value.int Go.IntKind.u8 0, Go.Value.int Go.IntKind.u8 0, Go.Value.int Go.IntKind.u8 0, Go.Value.int Go.IntKind.u8 0, Go.Value.int Go.IntKind.u8 0, Go.Value.int Go.IntKind.u8 0, Go.Value.int Go.IntKind.u8 0, Go.Value.int Go.IntKind.u8 0, Go.Value.int Go.IntKind.u8 0, Go.Value.int Go.IntKind.u8 0, Go.Value.int Go.IntKind.u8 0, Go.Value.int Go.IntKind.u8 0, Go.Value.int Go.IntKind.u8 0, Go.Value.int Go.IntKind.u8 0, Go.Value.int Go.IntKind.u8 0, Go.Value.int Go.IntKind.u8 0, Go.Value.int Go.IntKind.u8 0, Go.Value.int Go.IntKind.u8 0, Go.Value.int Go.IntKind.u8 0, Go.Value.int Go.IntKind.u8 0]) := ⟨by kernel_rfl⟩
instance : EI Go.Proofs.Tryd.prog 175 64 (Go.Value.agg #[Go.Value.int Go.IntKind.u8 0, Go.Value.int Go.IntKind.u8 0, Go.Value.int Go.IntKind.u8 0, Go.Value.int Go.IntKind.u8 0, Go.Value.int Go.IntKind.u8 0, Go.Value.int Go.IntKind.u8 0, Go.Value.int Go.IntKind.u8 0, Go.Value.int Go.IntKind.u8 0, Go.Value.int Go.IntKind.u8 0, Go.Value.int Go.IntKind.u8 0, Go.Value.int Go.IntKind.u8 0, Go.Value.int Go.IntKind.u8 0, Go.Value.int Go.IntKind.u8 0, Go.Value.int Go.IntKind.u8 0, Go.Value.int Go.IntKind.u8 0, Go.Value.int Go.IntKind.u8 0, Go.Value.int Go.IntKind.u8 0, Go.Value.int Go.IntKind.u8 0, Go.Value.int Go.IntKind.u8 0, Go.Value.int Go.IntKind.u8 0, Go.Value.int Go.IntKind.u8 0, Go.Value.int Go.IntKind.u8 0, Go.Value.int Go.IntKind.u8 0, Go.Value.int Go.IntKind.u8 0, Go.Value.int Go.IntKind.u8 0, Go.Value.int Go.IntKind.u8 0, Go.Value.int Go.IntKind.u8 0, Go.Value.int Go.IntKind.u8 0, Go.Value.int Go.IntKind.u8 0, Go.Value.int Go.IntKind.u8 0, Go.Value.int Go.IntKind.u8 0, Go.Value.int Go.IntKind.u8 0, Go.Value.int Go.IntKind.u8 0, Go.Value.int Go.IntKind.u8 0, Go.Value.int Go.IntKind.u8 0, Go.Value.int Go.IntKind.u8 0, Go.Value.int Go.IntKind.u8 0, Go.Value.int Go.IntKind.u8 0, Go.Value.int Go.IntKind.u8 0, Go.Value.int Go.IntKind.u8 0, Go.Value.int Go.IntKind.u8 0, Go.Value.int Go.IntKind.u8 0, Go.Value.int Go.IntKind.u8 0, Go.Value.int Go.IntKind.u8 0, Go.Value.int Go.IntKind.u8 0, Go.Value.int Go.IntKind.u8 0, Go.Value.int Go.IntKind.u8 0, Go.Value.int Go.IntKind.u8 0, Go.Value.int Go.IntKind.u8 0, Go.Value.int Go.IntKind.u8 0, Go.Value.int Go.IntKind.u8 0, Go.Value.int Go.IntKind.u8 0, Go.Value.int Go.IntKind.u8 0, Go.Value.int Go.IntKind.u8 0, Go.Value.int Go.IntKind.u8 0, Go.Value.int Go.IntKind.u8 0, Go.Value.int Go.IntKind.u8 0, Go.Value.int Go.IntKind.u8 0, Go.Value.int Go.IntKind.u8 0, Go.Value.int Go.IntKind.u8 0, Go.Value.int Go.IntKind.u8 0, Go.Value.int Go.IntKind.u8 0, Go.Value.int Go.IntKind.u8 0, Go.Value.int Go.IntKind.u8 0]) := ⟨by kernel_rfl⟩
instance : EI Go.Proofs.Tryd.prog 176 4 (Go.Value.agg #[Go.Value.pointer Option.none, Go.Value.pointer Option.none, Go.Value.pointer Option.none, Go.Value.string { data := #[] }]) := ⟨by kernel_rfl⟩
instance : EI Go.Proofs.Tryd.prog 177 4 (Go.Value.agg #[Go.Value.pointer Option.none, Go.Value.pointer Option.none, Go.Value.pointer Option.none, Go.Value.string { data := #[] }]) := ⟨by kernel_rfl⟩
instance : EI Go.Proofs.Tryd.prog 178 0 (Go.Value.agg #[]) := ⟨by kernel_rfl⟩
instance : EI Go.Proofs.Tryd.prog 179 0 (Go.Value.agg #[]) := ⟨by kernel_rfl⟩
instance : EI Go.Proofs.Tryd.prog 180 0 (Go.Value.agg #[]) := ⟨by kernel_rfl⟩
instance : EI Go.Proofs.Tryd.prog 181 1 Go.Value.nilFunc := ⟨by kernel_rfl⟩
instance : EI Go.Proofs.Tryd.prog 182 1 (Go.Value.int Go.IntKind.u8 0) := ⟨by kernel_rfl⟩
instance : EI Go.Proofs.Tryd.prog 183 1 (Go.Value.int Go.IntKind.u8 0) := ⟨by kernel_rfl⟩
instance : EI Go.Proofs.Tryd.prog 184 1 Go.Value.nilFunc := ⟨by kernel_rfl⟩
instance : EI Go.Proofs.Tryd.prog 185 1 (Go.Value.int Go.IntKind.i32 0) := ⟨by kernel_rfl⟩
instance : EI Go.Proofs.Tryd.prog 186 1 (Go.Value.int Go.IntKind.i32 0) := ⟨by kernel_rfl⟩
instance : EI Go.Proofs.Tryd.prog 187 11 (Go.Value.agg #[Go.Value.int Go.IntKind.u64 0, Go.Value.int Go.IntKind.u64 0, Go.Value.int Go.IntKind.u32 0, Go.Value.int Go.IntKind.u8 0, Go.Value.int Go.IntKind.u8 0, Go.Value.int Go.IntKind.u8 0, Go.Value.int Go.IntKind.u8 0, Go.Value.nilFunc, Go.Value.pointer Option.none, Go.Value.int Go.IntKind.i32 0, Go.Value.int Go.IntKind.i32 0]) := ⟨by kernel_rfl⟩
instance : EI Go.Proofs.Tryd.prog 188 11 (Go.Value.agg #[Go.Value.int Go.IntKind.u64 0, Go.Value.int Go.IntKind.u64 0, Go.Value.int Go.IntKind.u32 0, Go.Value.int Go.IntKind.u8 0, Go.Value.int Go.IntKind.u8 0, Go.Value.int Go.IntKind.u8 0, Go.Value.int Go.IntKind.u8 0, Go.Value.nilFunc, Go.Value.pointer Option.none, Go.Value.int Go.IntKind.i32 0, Go.Value.int Go.IntKind.i32 0]) := ⟨by kernel_rfl⟩
end Go.Proofs.YtfookachkcgdpaaDoor
