/- lazyclaw46.LinkUnresolved returns true for every list of objects: no condition beside the statement's own. Part 5. -/
import Derived.Test.YthijephffgoieaaGreatDoorMU4
import Derived.Test.YthijephffgoieaaGreatDoorProg
import Derived.KernelRfl
import Derived.Shelf.Strings.Builder1
import Derived.Shelf.Strings.Builder2
import Derived.Shelf.Small.Strs
import Derived.Shelf.Strings.BuilderF
import Derived.Shelf.Strings.BuilderK
import Derived.Shelf.Utf8.RuneCount
import Derived.Shelf.Strings.Builder2Cap
import Derived.Shelf.Strconv.Atoi
import Derived.Shelf.Strconv.Itoa0
import Derived.Shelf.Strconv.Itoa1
import Derived.Shelf.LaysM
import Derived.Shelf.Strconv.Itoa2
import Derived.Shelf.Strconv.Itoa3
import Derived.Shelf.Strconv.AtoiErrFast
import Derived.Shelf.Strconv.ParseIntEmpty
import Derived.Shelf.Strconv.AtoiFail
import Derived.Shelf.Strconv.Clone
import Derived.Shelf.Strconv.SyntaxError
import Derived.Shelf.LaysC
import Derived.Shelf.Strconv.ToError
import Derived.Shelf.Strconv.Lower
import Derived.Shelf.Strconv.ParseUint10
import Derived.Shelf.Strconv.ParseUint10Empty
import Derived.Shelf.Strconv.ParseUint10Any
import Derived.Shelf.Strconv.ParseInt10
import Derived.Shelf.Strconv.AtoiLong
import Derived.Shelf.Strconv.AtoiInnerAll
import Derived.Shelf.Strconv.RangeError
import Derived.Shelf.Strconv.ToErrorRange
import Derived.Shelf.Strconv.AtoiAll
import Derived.Shelf.Strconv.ErrVarAll
import Derived.Shelf.Strings.Search1
import Derived.Shelf.Strings.Search2
import Derived.Shelf.Strings.Search3
import Derived.Shelf.Strings.Cut
import Derived.Shelf.Strings.Count
import Derived.Shelf.Strings.Shaped
import Derived.Shelf.Strings.LastIndex
import Derived.Shelf.Strings.Prefix
import Derived.Shelf.Strings.Split
import Derived.Shelf.Strings.Fields
import Derived.Shelf.Strings.SplitShaped
import Derived.Shelf.Unicode.Latin
import Derived.Shelf.Unicode.Decode
import Derived.Shelf.Strings.RuneCount
import Derived.Shelf.Strings.Explode
import Derived.Shelf.Bits.Mul64
import Derived.Shelf.Strings.Repeat
import Derived.Shelf.Unicode.DecodeSlow
import Derived.Shelf.Unicode.DecodeAny
import Derived.Shelf.Unicode.Is16White
import Derived.Shelf.Unicode.IsSpaceAny
import Derived.Shelf.Unicode.Is16Any
import Derived.Shelf.Unicode.Is32Any
import Derived.Shelf.Unicode.ExclAny
import Derived.Shelf.Strings.BuilderCap
import Derived.Ground.Names2Prog
import Derived.Shelf.Slices.Clone
import Derived.Ground.SlgnProg
import Derived.Shelf.SlicesE.Clone
import Derived.Test.YthijephffgoieaaGreatDoorCards
import Derived.Lay
import Derived.Stop.LaidErr
import Derived.MakeChecks
import Derived.SizedLaws
import Derived.Shelf.Vars
import Derived.Stop.Joined
import Derived.Lib.LaidTab
import Derived.Lib.Strings
set_option linter.unusedVariables false
set_option linter.unusedSimpArgs false
set_option maxHeartbeats 2000000
section
namespace Go.AM
open Go.Proofs
set_option linter.unusedVariables false
set_option maxRecDepth 100000
theorem rs137 : Tryz.f137.results.toList = [ResultVar.cell 4 46] := by kernel_rfl
theorem rs184 : Tryz.f184.results.toList = [ResultVar.tmp 2] := by kernel_rfl
theorem rs185 : Tryz.f185.results.toList = [ResultVar.cell 4 46] := by kernel_rfl
theorem rs216 : Tryz.f216.results.toList = [] := by kernel_rfl
theorem rs217 : Tryz.f217.results.toList = [ResultVar.cell 2 46] := by kernel_rfl
theorem rs249 : Tryz.f249.results.toList = [ResultVar.cell 2 43] := by kernel_rfl
theorem rs134 : Tryz.f134.results.toList = [ResultVar.cell 2 46] := by kernel_rfl
theorem rs135 : Tryz.f135.results.toList = [ResultVar.tmp 2] := by kernel_rfl
theorem rs3 : Tryz.f3.results.toList = [ResultVar.tmp 2] := by kernel_rfl
theorem rs4 : Tryz.f4.results.toList = [ResultVar.tmp 2] := by kernel_rfl
theorem rs5 : Tryz.f5.results.toList = [ResultVar.tmp 2] := by kernel_rfl
theorem rs6 : Tryz.f6.results.toList = [ResultVar.tmp 4] := by kernel_rfl
theorem rs7 : Tryz.f7.results.toList = [ResultVar.tmp 2] := by kernel_rfl
theorem rs8 : Tryz.f8.results.toList = [ResultVar.tmp 0] := by kernel_rfl
theorem rs9 : Tryz.f9.results.toList = [ResultVar.cell 2 30, ResultVar.cell 3 33] := by kernel_rfl
theorem rs10 : Tryz.f10.results.toList = [ResultVar.cell 2 30, ResultVar.cell 3 33] := by kernel_rfl
theorem rs11 : Tryz.f11.results.toList = [ResultVar.tmp 4] := by kernel_rfl
theorem rs12 : Tryz.f12.results.toList = [ResultVar.tmp 2] := by kernel_rfl
theorem rs13 : Tryz.f13.results.toList = [ResultVar.tmp 2] := by kernel_rfl
theorem rs14 : Tryz.f14.results.toList = [ResultVar.tmp 2] := by kernel_rfl
theorem rs16 : Tryz.f16.results.toList = [ResultVar.tmp 2] := by kernel_rfl
theorem rs17 : Tryz.f17.results.toList = [ResultVar.tmp 2, ResultVar.tmp 3] := by kernel_rfl
theorem rs18 : Tryz.f18.results.toList = [ResultVar.tmp 2, ResultVar.tmp 3, ResultVar.cell 4 33] := by kernel_rfl
theorem rs19 : Tryz.f19.results.toList = [ResultVar.tmp 2] := by kernel_rfl
theorem rs20 : Tryz.f20.results.toList = [ResultVar.tmp 4] := by kernel_rfl
theorem rs21 : Tryz.f21.results.toList = [ResultVar.cell 4 75] := by kernel_rfl
theorem rs22 : Tryz.f22.results.toList = [ResultVar.tmp 4] := by kernel_rfl
theorem rs23 : Tryz.f23.results.toList = [ResultVar.cell 4 61] := by kernel_rfl
theorem rs24 : Tryz.f24.results.toList = [ResultVar.tmp 2] := by kernel_rfl
theorem rs25 : Tryz.f25.results.toList = [ResultVar.tmp 2, ResultVar.tmp 3] := by kernel_rfl
theorem rs26 : Tryz.f26.results.toList = [ResultVar.tmp 2, ResultVar.tmp 3] := by kernel_rfl
theorem rs27 : Tryz.f27.results.toList = [ResultVar.cell 10 84] := by kernel_rfl
theorem rs28 : Tryz.f28.results.toList = [ResultVar.cell 4 59] := by kernel_rfl
theorem rs29 : Tryz.f29.results.toList = [ResultVar.cell 4 91] := by kernel_rfl
theorem rs30 : Tryz.f30.results.toList = [ResultVar.tmp 4] := by kernel_rfl
theorem rs31 : Tryz.f31.results.toList = [ResultVar.tmp 4] := by kernel_rfl
theorem rs32 : Tryz.f32.results.toList = [ResultVar.tmp 4] := by kernel_rfl
theorem rs33 : Tryz.f33.results.toList = [ResultVar.tmp 4] := by kernel_rfl
theorem rs34 : Tryz.f34.results.toList = [ResultVar.tmp 0] := by kernel_rfl
theorem rs35 : Tryz.f35.results.toList = [] := by kernel_rfl
theorem rs36 : Tryz.f36.results.toList = [ResultVar.tmp 2] := by kernel_rfl
theorem rs37 : Tryz.f37.results.toList = [] := by kernel_rfl
theorem rs43 : Tryz.f43.results.toList = [ResultVar.tmp 2, ResultVar.tmp 3] := by kernel_rfl
theorem rs44 : Tryz.f44.results.toList = [ResultVar.cell 0 30] := by kernel_rfl
theorem rs45 : Tryz.f45.results.toList = [ResultVar.tmp 4] := by kernel_rfl
theorem rs46 : Tryz.f46.results.toList = [ResultVar.cell 4 91] := by kernel_rfl
theorem rs47 : Tryz.f47.results.toList = [ResultVar.cell 4 59] := by kernel_rfl
theorem rs48 : Tryz.f48.results.toList = [ResultVar.tmp 0] := by kernel_rfl
theorem rs49 : Tryz.f49.results.toList = [ResultVar.tmp 4] := by kernel_rfl
theorem rs50 : Tryz.f50.results.toList = [ResultVar.tmp 6] := by kernel_rfl
theorem rs51 : Tryz.f51.results.toList = [ResultVar.tmp 4] := by kernel_rfl
theorem rs52 : Tryz.f52.results.toList = [ResultVar.tmp 4] := by kernel_rfl
theorem rs53 : Tryz.f53.results.toList = [ResultVar.tmp 4] := by kernel_rfl
theorem rs54 : Tryz.f54.results.toList = [] := by kernel_rfl
theorem rs55 : Tryz.f55.results.toList = [] := by kernel_rfl
theorem rs56 : Tryz.f56.results.toList = [ResultVar.tmp 8] := by kernel_rfl
theorem rs69 : Tryz.f69.results.toList = [ResultVar.tmp 2] := by kernel_rfl
theorem rs70 : Tryz.f70.results.toList = [ResultVar.tmp 2] := by kernel_rfl
theorem rs71 : Tryz.f71.results.toList = [ResultVar.tmp 6] := by kernel_rfl
theorem rs73 : Tryz.f73.results.toList = [ResultVar.tmp 4] := by kernel_rfl
theorem rs74 : Tryz.f74.results.toList = [ResultVar.tmp 4] := by kernel_rfl
theorem rs75 : Tryz.f75.results.toList = [ResultVar.cell 4 181] := by kernel_rfl
theorem rs76 : Tryz.f76.results.toList = [ResultVar.tmp 4] := by kernel_rfl
theorem rs77 : Tryz.f77.results.toList = [ResultVar.tmp 4] := by kernel_rfl
theorem rs78 : Tryz.f78.results.toList = [ResultVar.cell 4 138] := by kernel_rfl
theorem rs79 : Tryz.f79.results.toList = [ResultVar.tmp 8] := by kernel_rfl
theorem rs97 : Tryz.f97.results.toList = [ResultVar.tmp 0] := by kernel_rfl
theorem rs98 : Tryz.f98.results.toList = [ResultVar.tmp 6] := by kernel_rfl
theorem rs99 : Tryz.f99.results.toList = [ResultVar.tmp 6] := by kernel_rfl
theorem rs100 : Tryz.f100.results.toList = [ResultVar.tmp 6] := by kernel_rfl
theorem rs105 : Tryz.f105.results.toList = [] := by kernel_rfl
theorem rs138 : Tryz.f138.results.toList = [ResultVar.tmp 6] := by kernel_rfl
theorem rs139 : Tryz.f139.results.toList = [ResultVar.cell 6 172, ResultVar.tmp 7] := by kernel_rfl
theorem rs186 : Tryz.f186.results.toList = [ResultVar.tmp 4] := by kernel_rfl
theorem rs187 : Tryz.f187.results.toList = [ResultVar.cell 6 172, ResultVar.tmp 7] := by kernel_rfl
theorem rs188 : Tryz.f188.results.toList = [ResultVar.tmp 2] := by kernel_rfl
theorem rs189 : Tryz.f189.results.toList = [ResultVar.tmp 6] := by kernel_rfl
theorem rs218 : Tryz.f218.results.toList = [ResultVar.tmp 2] := by kernel_rfl
theorem sz3 : szT Tryz.prog 3 = some 1 := by kernel_rfl
theorem by3 : bytesT Tryz.prog 3 = some 8 := by kernel_rfl
theorem ag3 : agT Tryz.prog 3 = some false := by kernel_rfl
theorem kn3 : knT Tryz.prog 3 = some (.int .i64) := by kernel_rfl
def z3 : Value := Value.int IntKind.i64 0
theorem zt3 : zeroT Tryz.prog 3 = some z3 := by kernel_rfl
theorem zc3 : constA z3 = some (.d (.v (Value.int IntKind.i64 0))) := by kernel_rfl
theorem sz4 : szT Tryz.prog 4 = some 1 := by kernel_rfl
theorem by4 : bytesT Tryz.prog 4 = some 1 := by kernel_rfl
theorem ag4 : agT Tryz.prog 4 = some false := by kernel_rfl
theorem kn4 : knT Tryz.prog 4 = some .bool := by kernel_rfl
def z4 : Value := Value.bool false
theorem zt4 : zeroT Tryz.prog 4 = some z4 := by kernel_rfl
theorem zc4 : constA z4 = some (.d (.v (Value.bool false))) := by kernel_rfl
theorem sz5 : szT Tryz.prog 5 = some 1 := by kernel_rfl
theorem by5 : bytesT Tryz.prog 5 = some 1 := by kernel_rfl
theorem ag5 : agT Tryz.prog 5 = some false := by kernel_rfl
theorem kn5 : knT Tryz.prog 5 = some (.int .u8) := by kernel_rfl
def z5 : Value := Value.int IntKind.u8 0
theorem zt5 : zeroT Tryz.prog 5 = some z5 := by kernel_rfl
theorem zc5 : constA z5 = some (.d (.v (Value.int IntKind.u8 0))) := by kernel_rfl
theorem sz9 : szT Tryz.prog 9 = some 1 := by kernel_rfl
theorem by9 : bytesT Tryz.prog 9 = some 16 := by kernel_rfl
theorem ag9 : agT Tryz.prog 9 = some false := by kernel_rfl
theorem kn9 : knT Tryz.prog 9 = some .str := by kernel_rfl
def z9 : Value := Value.string { data := #[] }
theorem zt9 : zeroT Tryz.prog 9 = some z9 := by kernel_rfl
theorem zc9 : constA z9 = some (.d (.v (Value.string { data := #[] }))) := by kernel_rfl
theorem sz20 : szT Tryz.prog 20 = some 1 := by kernel_rfl
theorem by20 : bytesT Tryz.prog 20 = some 16 := by kernel_rfl
theorem ag20 : agT Tryz.prog 20 = some false := by kernel_rfl
theorem kn20 : knT Tryz.prog 20 = some .other := by kernel_rfl
def z20 : Value := Value.nilIface
theorem zt20 : zeroT Tryz.prog 20 = some z20 := by kernel_rfl
theorem zc20 : constA z20 = some (.d (.v (Value.nilIface))) := by kernel_rfl
theorem sz22 : szT Tryz.prog 22 = some 1 := by kernel_rfl
theorem by22 : bytesT Tryz.prog 22 = some 24 := by kernel_rfl
theorem ag22 : agT Tryz.prog 22 = some false := by kernel_rfl
theorem kn22 : knT Tryz.prog 22 = some .slice := by kernel_rfl
theorem el22 : elT Tryz.prog 22 = some 30 := by kernel_rfl
theorem eb22_30 : elB Tryz.prog 30 = some (4, 96) := by kernel_rfl
def z22 : Value := Value.slice none 0 0
theorem zt22 : zeroT Tryz.prog 22 = some z22 := by kernel_rfl
theorem zc22 : constA z22 = some (.nl) := by kernel_rfl
theorem sz25 : szT Tryz.prog 25 = some 1 := by kernel_rfl
theorem by25 : bytesT Tryz.prog 25 = some 24 := by kernel_rfl
theorem ag25 : agT Tryz.prog 25 = some false := by kernel_rfl
theorem kn25 : knT Tryz.prog 25 = some .slice := by kernel_rfl
theorem el25 : elT Tryz.prog 25 = some 63 := by kernel_rfl
theorem eb25_63 : elB Tryz.prog 63 = some (3, 32) := by kernel_rfl
def z25 : Value := Value.slice none 0 0
theorem zt25 : zeroT Tryz.prog 25 = some z25 := by kernel_rfl
theorem zc25 : constA z25 = some (.nl) := by kernel_rfl
theorem sz26 : szT Tryz.prog 26 = some 1 := by kernel_rfl
theorem by26 : bytesT Tryz.prog 26 = some 24 := by kernel_rfl
theorem ag26 : agT Tryz.prog 26 = some false := by kernel_rfl
theorem kn26 : knT Tryz.prog 26 = some .slice := by kernel_rfl
theorem el26 : elT Tryz.prog 26 = some 9 := by kernel_rfl
theorem eb26_9 : elB Tryz.prog 9 = some (1, 16) := by kernel_rfl
theorem nl26 : slT Tryz.prog 26 = true := by kernel_rfl
def z26 : Value := Value.slice none 0 0
theorem zt26 : zeroT Tryz.prog 26 = some z26 := by kernel_rfl
theorem zc26 : constA z26 = some (.nl) := by kernel_rfl
theorem sz27 : szT Tryz.prog 27 = some 1 := by kernel_rfl
theorem by27 : bytesT Tryz.prog 27 = some 24 := by kernel_rfl
theorem ag27 : agT Tryz.prog 27 = some false := by kernel_rfl
theorem kn27 : knT Tryz.prog 27 = some .slice := by kernel_rfl
theorem el27 : elT Tryz.prog 27 = some 61 := by kernel_rfl
theorem eb27_61 : elB Tryz.prog 61 = some (5, 64) := by kernel_rfl
def z27 : Value := Value.slice none 0 0
theorem zt27 : zeroT Tryz.prog 27 = some z27 := by kernel_rfl
theorem zc27 : constA z27 = some (.nl) := by kernel_rfl
theorem sz28 : szT Tryz.prog 28 = some 1 := by kernel_rfl
theorem by28 : bytesT Tryz.prog 28 = some 24 := by kernel_rfl
theorem ag28 : agT Tryz.prog 28 = some false := by kernel_rfl
theorem kn28 : knT Tryz.prog 28 = some .slice := by kernel_rfl
theorem el28 : elT Tryz.prog 28 = some 75 := by kernel_rfl
theorem eb28_75 : elB Tryz.prog 75 = some (1, 24) := by kernel_rfl
def z28 : Value := Value.slice none 0 0
theorem zt28 : zeroT Tryz.prog 28 = some z28 := by kernel_rfl
theorem zc28 : constA z28 = some (.nl) := by kernel_rfl
theorem sz30 : szT Tryz.prog 30 = some 4 := by kernel_rfl
theorem by30 : bytesT Tryz.prog 30 = some 96 := by kernel_rfl
theorem ag30 : agT Tryz.prog 30 = some true := by kernel_rfl
theorem kn30 : knT Tryz.prog 30 = some .other := by kernel_rfl
theorem fl30_0 : fldT Tryz.prog 30 0 = some (0, 25) := by kernel_rfl
theorem fl30_1 : fldT Tryz.prog 30 1 = some (1, 26) := by kernel_rfl
theorem fl30_2 : fldT Tryz.prog 30 2 = some (2, 27) := by kernel_rfl
theorem fl30_3 : fldT Tryz.prog 30 3 = some (3, 28) := by kernel_rfl
theorem pl30 : plcT Tryz.prog 30 = some (.row [(0, 1), (1, 1), (2, 1), (3, 1)]) := by kernel_rfl
def z30 : Value := Value.agg #[Value.slice none 0 0, Value.slice none 0 0, Value.slice none 0 0, Value.slice none 0 0]
theorem zt30 : zeroT Tryz.prog 30 = some z30 := by kernel_rfl
theorem zc30 : constA z30 = some (.agg [.nl, .nl, .nl, .nl]) := by kernel_rfl
theorem sz31 : szT Tryz.prog 31 = some 1 := by kernel_rfl
theorem by31 : bytesT Tryz.prog 31 = some 8 := by kernel_rfl
theorem ag31 : agT Tryz.prog 31 = some false := by kernel_rfl
theorem kn31 : knT Tryz.prog 31 = some (.int .i64) := by kernel_rfl
def z31 : Value := Value.int IntKind.i64 0
theorem zt31 : zeroT Tryz.prog 31 = some z31 := by kernel_rfl
theorem zc31 : constA z31 = some (.d (.v (Value.int IntKind.i64 0))) := by kernel_rfl
theorem sz33 : szT Tryz.prog 33 = some 4 := by kernel_rfl
theorem by33 : bytesT Tryz.prog 33 = some 40 := by kernel_rfl
theorem ag33 : agT Tryz.prog 33 = some true := by kernel_rfl
theorem kn33 : knT Tryz.prog 33 = some .other := by kernel_rfl
theorem eq33 : eqT Tryz.prog 33 = some [.int .i64, .str, .int .i64, .int .i64] := by kernel_rfl
theorem fl33_0 : fldT Tryz.prog 33 0 = some (0, 31) := by kernel_rfl
theorem fl33_1 : fldT Tryz.prog 33 1 = some (1, 9) := by kernel_rfl
theorem fl33_2 : fldT Tryz.prog 33 2 = some (2, 3) := by kernel_rfl
theorem fl33_3 : fldT Tryz.prog 33 3 = some (3, 3) := by kernel_rfl
theorem pl33 : plcT Tryz.prog 33 = some (.row [(0, 1), (1, 1), (2, 1), (3, 1)]) := by kernel_rfl
def z33 : Value := Value.agg #[Value.int IntKind.i64 0, Value.string { data := #[] }, Value.int IntKind.i64 0, Value.int IntKind.i64 0]
theorem zt33 : zeroT Tryz.prog 33 = some z33 := by kernel_rfl
theorem zc33 : constA z33 = some (.d (.agg [.v (Value.int IntKind.i64 0), .v (Value.string { data := #[] }), .v (Value.int IntKind.i64 0), .v (Value.int IntKind.i64 0)])) := by kernel_rfl
theorem sz40 : szT Tryz.prog 40 = some 1 := by kernel_rfl
theorem by40 : bytesT Tryz.prog 40 = some 8 := by kernel_rfl
theorem ag40 : agT Tryz.prog 40 = some false := by kernel_rfl
theorem kn40 : knT Tryz.prog 40 = some (.int .i64) := by kernel_rfl
def z40 : Value := Value.int IntKind.i64 0
theorem zt40 : zeroT Tryz.prog 40 = some z40 := by kernel_rfl
theorem zc40 : constA z40 = some (.d (.v (Value.int IntKind.i64 0))) := by kernel_rfl
theorem sz41 : szT Tryz.prog 41 = some 1 := by kernel_rfl
theorem by41 : bytesT Tryz.prog 41 = some 24 := by kernel_rfl
theorem ag41 : agT Tryz.prog 41 = some false := by kernel_rfl
theorem kn41 : knT Tryz.prog 41 = some .slice := by kernel_rfl
theorem el41 : elT Tryz.prog 41 = some 43 := by kernel_rfl
theorem eb41_43 : elB Tryz.prog 43 = some (1, 24) := by kernel_rfl
def z41 : Value := Value.slice none 0 0
theorem zt41 : zeroT Tryz.prog 41 = some z41 := by kernel_rfl
theorem zc41 : constA z41 = some (.nl) := by kernel_rfl
theorem sz43 : szT Tryz.prog 43 = some 1 := by kernel_rfl
theorem by43 : bytesT Tryz.prog 43 = some 24 := by kernel_rfl
theorem ag43 : agT Tryz.prog 43 = some true := by kernel_rfl
theorem kn43 : knT Tryz.prog 43 = some .other := by kernel_rfl
theorem fl43_0 : fldT Tryz.prog 43 0 = some (0, 41) := by kernel_rfl
theorem pl43 : plcT Tryz.prog 43 = some (.row [(0, 1)]) := by kernel_rfl
def z43 : Value := Value.agg #[Value.slice none 0 0]
theorem zt43 : zeroT Tryz.prog 43 = some z43 := by kernel_rfl
theorem zc43 : constA z43 = some (.agg [.nl]) := by kernel_rfl
theorem sz44 : szT Tryz.prog 44 = some 1 := by kernel_rfl
theorem by44 : bytesT Tryz.prog 44 = some 24 := by kernel_rfl
theorem ag44 : agT Tryz.prog 44 = some false := by kernel_rfl
theorem kn44 : knT Tryz.prog 44 = some .slice := by kernel_rfl
theorem el44 : elT Tryz.prog 44 = some 46 := by kernel_rfl
theorem eb44_46 : elB Tryz.prog 46 = some (4, 72) := by kernel_rfl
def z44 : Value := Value.slice none 0 0
theorem zt44 : zeroT Tryz.prog 44 = some z44 := by kernel_rfl
theorem zc44 : constA z44 = some (.nl) := by kernel_rfl
theorem sz46 : szT Tryz.prog 46 = some 4 := by kernel_rfl
theorem by46 : bytesT Tryz.prog 46 = some 72 := by kernel_rfl
theorem ag46 : agT Tryz.prog 46 = some true := by kernel_rfl
theorem kn46 : knT Tryz.prog 46 = some .other := by kernel_rfl
theorem fl46_0 : fldT Tryz.prog 46 0 = some (0, 40) := by kernel_rfl
theorem fl46_1 : fldT Tryz.prog 46 1 = some (1, 9) := by kernel_rfl
theorem fl46_2 : fldT Tryz.prog 46 2 = some (2, 43) := by kernel_rfl
theorem fl46_3 : fldT Tryz.prog 46 3 = some (3, 44) := by kernel_rfl
theorem pl46 : plcT Tryz.prog 46 = some (.row [(0, 1), (1, 1), (2, 1), (3, 1)]) := by kernel_rfl
def z46 : Value := Value.agg #[Value.int IntKind.i64 0, Value.string { data := #[] }, Value.slice none 0 0, Value.slice none 0 0]
theorem zt46 : zeroT Tryz.prog 46 = some z46 := by kernel_rfl
theorem zc46 : constA z46 = some (.agg [.d (.v (Value.int IntKind.i64 0)), .d (.v (Value.string { data := #[] })), .nl, .nl]) := by kernel_rfl
theorem sz48 : szT Tryz.prog 48 = some 5 := by kernel_rfl
theorem by48 : bytesT Tryz.prog 48 = some 88 := by kernel_rfl
theorem ag48 : agT Tryz.prog 48 = some true := by kernel_rfl
theorem kn48 : knT Tryz.prog 48 = some .other := by kernel_rfl
theorem fl48_0 : fldT Tryz.prog 48 0 = some (0, 9) := by kernel_rfl
theorem fl48_1 : fldT Tryz.prog 48 1 = some (1, 46) := by kernel_rfl
theorem pl48 : plcT Tryz.prog 48 = some (.row [(0, 1), (1, 4)]) := by kernel_rfl
def z48 : Value := Value.agg #[Value.string { data := #[] }, Value.int IntKind.i64 0, Value.string { data := #[] }, Value.slice none 0 0, Value.slice none 0 0]
theorem zt48 : zeroT Tryz.prog 48 = some z48 := by kernel_rfl
theorem zc48 : constA z48 = some (.agg [.d (.v (Value.string { data := #[] })), .d (.v (Value.int IntKind.i64 0)), .d (.v (Value.string { data := #[] })), .nl, .nl]) := by kernel_rfl
theorem sz49 : szT Tryz.prog 49 = some 1 := by kernel_rfl
theorem by49 : bytesT Tryz.prog 49 = some 24 := by kernel_rfl
theorem ag49 : agT Tryz.prog 49 = some false := by kernel_rfl
theorem kn49 : knT Tryz.prog 49 = some .slice := by kernel_rfl
theorem el49 : elT Tryz.prog 49 = some 48 := by kernel_rfl
theorem eb49_48 : elB Tryz.prog 48 = some (5, 88) := by kernel_rfl
def z49 : Value := Value.slice none 0 0
theorem zt49 : zeroT Tryz.prog 49 = some z49 := by kernel_rfl
theorem zc49 : constA z49 = some (.nl) := by kernel_rfl
theorem sz50 : szT Tryz.prog 50 = some 1 := by kernel_rfl
theorem by50 : bytesT Tryz.prog 50 = some 24 := by kernel_rfl
theorem ag50 : agT Tryz.prog 50 = some false := by kernel_rfl
theorem kn50 : knT Tryz.prog 50 = some .slice := by kernel_rfl
theorem el50 : elT Tryz.prog 50 = some 124 := by kernel_rfl
theorem eb50_124 : elB Tryz.prog 124 = some (3, 64) := by kernel_rfl
def z50 : Value := Value.slice none 0 0
theorem zt50 : zeroT Tryz.prog 50 = some z50 := by kernel_rfl
theorem zc50 : constA z50 = some (.nl) := by kernel_rfl
theorem sz51 : szT Tryz.prog 51 = some 1 := by kernel_rfl
theorem by51 : bytesT Tryz.prog 51 = some 24 := by kernel_rfl
theorem ag51 : agT Tryz.prog 51 = some false := by kernel_rfl
theorem kn51 : knT Tryz.prog 51 = some .slice := by kernel_rfl
theorem el51 : elT Tryz.prog 51 = some 108 := by kernel_rfl
theorem eb51_108 : elB Tryz.prog 108 = some (2, 32) := by kernel_rfl
def z51 : Value := Value.slice none 0 0
theorem zt51 : zeroT Tryz.prog 51 = some z51 := by kernel_rfl
theorem zc51 : constA z51 = some (.nl) := by kernel_rfl
theorem sz53 : szT Tryz.prog 53 = some 4 := by kernel_rfl
theorem by53 : bytesT Tryz.prog 53 = some 96 := by kernel_rfl
theorem ag53 : agT Tryz.prog 53 = some true := by kernel_rfl
theorem kn53 : knT Tryz.prog 53 = some .other := by kernel_rfl
theorem fl53_0 : fldT Tryz.prog 53 0 = some (0, 49) := by kernel_rfl
theorem fl53_1 : fldT Tryz.prog 53 1 = some (1, 50) := by kernel_rfl
theorem fl53_2 : fldT Tryz.prog 53 2 = some (2, 50) := by kernel_rfl
theorem fl53_3 : fldT Tryz.prog 53 3 = some (3, 51) := by kernel_rfl
theorem pl53 : plcT Tryz.prog 53 = some (.row [(0, 1), (1, 1), (2, 1), (3, 1)]) := by kernel_rfl
def z53 : Value := Value.agg #[Value.slice none 0 0, Value.slice none 0 0, Value.slice none 0 0, Value.slice none 0 0]
theorem zt53 : zeroT Tryz.prog 53 = some z53 := by kernel_rfl
theorem zc53 : constA z53 = some (.agg [.nl, .nl, .nl, .nl]) := by kernel_rfl
theorem sz56 : szT Tryz.prog 56 = some 1 := by kernel_rfl
theorem by56 : bytesT Tryz.prog 56 = some 8 := by kernel_rfl
theorem ag56 : agT Tryz.prog 56 = some false := by kernel_rfl
theorem kn56 : knT Tryz.prog 56 = some (.int .i64) := by kernel_rfl
def z56 : Value := Value.int IntKind.i64 0
theorem zt56 : zeroT Tryz.prog 56 = some z56 := by kernel_rfl
theorem zc56 : constA z56 = some (.d (.v (Value.int IntKind.i64 0))) := by kernel_rfl
theorem sz57 : szT Tryz.prog 57 = some 1 := by kernel_rfl
theorem by57 : bytesT Tryz.prog 57 = some 24 := by kernel_rfl
theorem ag57 : agT Tryz.prog 57 = some false := by kernel_rfl
theorem kn57 : knT Tryz.prog 57 = some .slice := by kernel_rfl
theorem el57 : elT Tryz.prog 57 = some 181 := by kernel_rfl
theorem eb57_181 : elB Tryz.prog 181 = some (2, 16) := by kernel_rfl
def z57 : Value := Value.slice none 0 0
theorem zt57 : zeroT Tryz.prog 57 = some z57 := by kernel_rfl
theorem zc57 : constA z57 = some (.nl) := by kernel_rfl
theorem sz59 : szT Tryz.prog 59 = some 4 := by kernel_rfl
theorem by59 : bytesT Tryz.prog 59 = some 48 := by kernel_rfl
theorem ag59 : agT Tryz.prog 59 = some true := by kernel_rfl
theorem kn59 : knT Tryz.prog 59 = some .other := by kernel_rfl
theorem fl59_0 : fldT Tryz.prog 59 0 = some (0, 56) := by kernel_rfl
theorem fl59_1 : fldT Tryz.prog 59 1 = some (1, 3) := by kernel_rfl
theorem fl59_2 : fldT Tryz.prog 59 2 = some (2, 3) := by kernel_rfl
theorem fl59_3 : fldT Tryz.prog 59 3 = some (3, 57) := by kernel_rfl
theorem pl59 : plcT Tryz.prog 59 = some (.row [(0, 1), (1, 1), (2, 1), (3, 1)]) := by kernel_rfl
def z59 : Value := Value.agg #[Value.int IntKind.i64 0, Value.int IntKind.i64 0, Value.int IntKind.i64 0, Value.slice none 0 0]
theorem zt59 : zeroT Tryz.prog 59 = some z59 := by kernel_rfl
theorem zc59 : constA z59 = some (.agg [.d (.v (Value.int IntKind.i64 0)), .d (.v (Value.int IntKind.i64 0)), .d (.v (Value.int IntKind.i64 0)), .nl]) := by kernel_rfl
theorem sz61 : szT Tryz.prog 61 = some 5 := by kernel_rfl
theorem by61 : bytesT Tryz.prog 61 = some 64 := by kernel_rfl
theorem ag61 : agT Tryz.prog 61 = some true := by kernel_rfl
theorem kn61 : knT Tryz.prog 61 = some .other := by kernel_rfl
theorem fl61_0 : fldT Tryz.prog 61 0 = some (0, 9) := by kernel_rfl
theorem fl61_1 : fldT Tryz.prog 61 1 = some (1, 59) := by kernel_rfl
theorem pl61 : plcT Tryz.prog 61 = some (.row [(0, 1), (1, 4)]) := by kernel_rfl
def z61 : Value := Value.agg #[Value.string { data := #[] }, Value.int IntKind.i64 0, Value.int IntKind.i64 0, Value.int IntKind.i64 0, Value.slice none 0 0]
theorem zt61 : zeroT Tryz.prog 61 = some z61 := by kernel_rfl
theorem zc61 : constA z61 = some (.agg [.d (.v (Value.string { data := #[] })), .d (.v (Value.int IntKind.i64 0)), .d (.v (Value.int IntKind.i64 0)), .d (.v (Value.int IntKind.i64 0)), .nl]) := by kernel_rfl
theorem sz63 : szT Tryz.prog 63 = some 3 := by kernel_rfl
theorem by63 : bytesT Tryz.prog 63 = some 32 := by kernel_rfl
theorem ag63 : agT Tryz.prog 63 = some true := by kernel_rfl
theorem kn63 : knT Tryz.prog 63 = some .other := by kernel_rfl
theorem eq63 : eqT Tryz.prog 63 = some [.str, .int .i64, .int .i64] := by kernel_rfl
theorem fl63_0 : fldT Tryz.prog 63 0 = some (0, 9) := by kernel_rfl
theorem fl63_1 : fldT Tryz.prog 63 1 = some (1, 3) := by kernel_rfl
theorem fl63_2 : fldT Tryz.prog 63 2 = some (2, 3) := by kernel_rfl
theorem pl63 : plcT Tryz.prog 63 = some (.row [(0, 1), (1, 1), (2, 1)]) := by kernel_rfl
def z63 : Value := Value.agg #[Value.string { data := #[] }, Value.int IntKind.i64 0, Value.int IntKind.i64 0]
theorem zt63 : zeroT Tryz.prog 63 = some z63 := by kernel_rfl
theorem zc63 : constA z63 = some (.d (.agg [.v (Value.string { data := #[] }), .v (Value.int IntKind.i64 0), .v (Value.int IntKind.i64 0)])) := by kernel_rfl
theorem sz66 : szT Tryz.prog 66 = some 1 := by kernel_rfl
theorem by66 : bytesT Tryz.prog 66 = some 8 := by kernel_rfl
theorem ag66 : agT Tryz.prog 66 = some false := by kernel_rfl
theorem kn66 : knT Tryz.prog 66 = some .map := by kernel_rfl
theorem mp66 : mpT Tryz.prog 66 = some (9, .one .str, 3) := by kernel_rfl
def z66 : Value := Value.map none
theorem zt66 : zeroT Tryz.prog 66 = some z66 := by kernel_rfl
theorem zc66 : constA z66 = some (.d (.v (Value.map none))) := by kernel_rfl
theorem sz71 : szT Tryz.prog 71 = some 8 := by kernel_rfl
theorem by71 : bytesT Tryz.prog 71 = some 128 := by kernel_rfl
theorem ag71 : agT Tryz.prog 71 = some true := by kernel_rfl
theorem kn71 : knT Tryz.prog 71 = some .other := by kernel_rfl
theorem fl71_0 : fldT Tryz.prog 71 0 = some (0, 30) := by kernel_rfl
theorem fl71_1 : fldT Tryz.prog 71 1 = some (4, 66) := by kernel_rfl
theorem fl71_2 : fldT Tryz.prog 71 2 = some (5, 66) := by kernel_rfl
theorem fl71_3 : fldT Tryz.prog 71 3 = some (6, 3) := by kernel_rfl
theorem fl71_4 : fldT Tryz.prog 71 4 = some (7, 3) := by kernel_rfl
theorem pl71 : plcT Tryz.prog 71 = some (.row [(0, 4), (4, 1), (5, 1), (6, 1), (7, 1)]) := by kernel_rfl
def z71 : Value := Value.agg #[Value.slice none 0 0, Value.slice none 0 0, Value.slice none 0 0, Value.slice none 0 0, Value.map none, Value.map none, Value.int IntKind.i64 0, Value.int IntKind.i64 0]
theorem zt71 : zeroT Tryz.prog 71 = some z71 := by kernel_rfl
theorem zc71 : constA z71 = some (.agg [.nl, .nl, .nl, .nl, .d (.v (Value.map none)), .d (.v (Value.map none)), .d (.v (Value.int IntKind.i64 0)), .d (.v (Value.int IntKind.i64 0))]) := by kernel_rfl
theorem sz73 : szT Tryz.prog 73 = some 1 := by kernel_rfl
theorem by73 : bytesT Tryz.prog 73 = some 24 := by kernel_rfl
theorem ag73 : agT Tryz.prog 73 = some false := by kernel_rfl
theorem kn73 : knT Tryz.prog 73 = some .slice := by kernel_rfl
theorem el73 : elT Tryz.prog 73 = some 91 := by kernel_rfl
theorem eb73_91 : elB Tryz.prog 91 = some (6, 96) := by kernel_rfl
def z73 : Value := Value.slice none 0 0
theorem zt73 : zeroT Tryz.prog 73 = some z73 := by kernel_rfl
theorem zc73 : constA z73 = some (.nl) := by kernel_rfl
theorem sz75 : szT Tryz.prog 75 = some 1 := by kernel_rfl
theorem by75 : bytesT Tryz.prog 75 = some 24 := by kernel_rfl
theorem ag75 : agT Tryz.prog 75 = some true := by kernel_rfl
theorem kn75 : knT Tryz.prog 75 = some .other := by kernel_rfl
theorem fl75_0 : fldT Tryz.prog 75 0 = some (0, 73) := by kernel_rfl
theorem pl75 : plcT Tryz.prog 75 = some (.row [(0, 1)]) := by kernel_rfl
def z75 : Value := Value.agg #[Value.slice none 0 0]
theorem zt75 : zeroT Tryz.prog 75 = some z75 := by kernel_rfl
theorem zc75 : constA z75 = some (.agg [.nl]) := by kernel_rfl
theorem sz76 : szT Tryz.prog 76 = some 1 := by kernel_rfl
theorem by76 : bytesT Tryz.prog 76 = some 8 := by kernel_rfl
theorem ag76 : agT Tryz.prog 76 = some false := by kernel_rfl
theorem kn76 : knT Tryz.prog 76 = some .other := by kernel_rfl
def z76 : Value := Value.nilFunc
theorem zt76 : zeroT Tryz.prog 76 = some z76 := by kernel_rfl
theorem zc76 : constA z76 = some (.d (.v (Value.nilFunc))) := by kernel_rfl
theorem sz78 : szT Tryz.prog 78 = some 1 := by kernel_rfl
theorem by78 : bytesT Tryz.prog 78 = some 8 := by kernel_rfl
theorem ag78 : agT Tryz.prog 78 = some false := by kernel_rfl
theorem kn78 : knT Tryz.prog 78 = some .other := by kernel_rfl
def z78 : Value := Value.nilFunc
theorem zt78 : zeroT Tryz.prog 78 = some z78 := by kernel_rfl
theorem zc78 : constA z78 = some (.d (.v (Value.nilFunc))) := by kernel_rfl
theorem sz82 : szT Tryz.prog 82 = some 1 := by kernel_rfl
theorem by82 : bytesT Tryz.prog 82 = some 24 := by kernel_rfl
theorem ag82 : agT Tryz.prog 82 = some false := by kernel_rfl
theorem kn82 : knT Tryz.prog 82 = some .slice := by kernel_rfl
theorem el82 : elT Tryz.prog 82 = some 3 := by kernel_rfl
theorem eb82_3 : elB Tryz.prog 3 = some (1, 8) := by kernel_rfl
def z82 : Value := Value.slice none 0 0
theorem zt82 : zeroT Tryz.prog 82 = some z82 := by kernel_rfl
theorem zc82 : constA z82 = some (.nl) := by kernel_rfl
theorem sz84 : szT Tryz.prog 84 = some 3 := by kernel_rfl
theorem by84 : bytesT Tryz.prog 84 = some 56 := by kernel_rfl
theorem ag84 : agT Tryz.prog 84 = some true := by kernel_rfl
theorem kn84 : knT Tryz.prog 84 = some .other := by kernel_rfl
theorem fl84_0 : fldT Tryz.prog 84 0 = some (0, 82) := by kernel_rfl
theorem fl84_1 : fldT Tryz.prog 84 1 = some (1, 82) := by kernel_rfl
theorem fl84_2 : fldT Tryz.prog 84 2 = some (2, 3) := by kernel_rfl
theorem pl84 : plcT Tryz.prog 84 = some (.row [(0, 1), (1, 1), (2, 1)]) := by kernel_rfl
def z84 : Value := Value.agg #[Value.slice none 0 0, Value.slice none 0 0, Value.int IntKind.i64 0]
theorem zt84 : zeroT Tryz.prog 84 = some z84 := by kernel_rfl
theorem zc84 : constA z84 = some (.agg [.nl, .nl, .d (.v (Value.int IntKind.i64 0))]) := by kernel_rfl
theorem sz86 : szT Tryz.prog 86 = some 1 := by kernel_rfl
theorem by86 : bytesT Tryz.prog 86 = some 8 := by kernel_rfl
theorem ag86 : agT Tryz.prog 86 = some false := by kernel_rfl
theorem kn86 : knT Tryz.prog 86 = some .other := by kernel_rfl
def z86 : Value := Value.nilFunc
theorem zt86 : zeroT Tryz.prog 86 = some z86 := by kernel_rfl
theorem zc86 : constA z86 = some (.d (.v (Value.nilFunc))) := by kernel_rfl
theorem sz87 : szT Tryz.prog 87 = some 1 := by kernel_rfl
theorem by87 : bytesT Tryz.prog 87 = some 8 := by kernel_rfl
theorem ag87 : agT Tryz.prog 87 = some false := by kernel_rfl
theorem kn87 : knT Tryz.prog 87 = some (.int .i64) := by kernel_rfl
def z87 : Value := Value.int IntKind.i64 0
theorem zt87 : zeroT Tryz.prog 87 = some z87 := by kernel_rfl
theorem zc87 : constA z87 = some (.d (.v (Value.int IntKind.i64 0))) := by kernel_rfl
theorem sz88 : szT Tryz.prog 88 = some 1 := by kernel_rfl
theorem by88 : bytesT Tryz.prog 88 = some 24 := by kernel_rfl
theorem ag88 : agT Tryz.prog 88 = some false := by kernel_rfl
theorem kn88 : knT Tryz.prog 88 = some .slice := by kernel_rfl
theorem el88 : elT Tryz.prog 88 = some 59 := by kernel_rfl
theorem eb88_59 : elB Tryz.prog 59 = some (4, 48) := by kernel_rfl
def z88 : Value := Value.slice none 0 0
theorem zt88 : zeroT Tryz.prog 88 = some z88 := by kernel_rfl
theorem zc88 : constA z88 = some (.nl) := by kernel_rfl
theorem sz89 : szT Tryz.prog 89 = some 1 := by kernel_rfl
theorem by89 : bytesT Tryz.prog 89 = some 24 := by kernel_rfl
theorem ag89 : agT Tryz.prog 89 = some false := by kernel_rfl
theorem kn89 : knT Tryz.prog 89 = some .slice := by kernel_rfl
theorem el89 : elT Tryz.prog 89 = some 138 := by kernel_rfl
theorem eb89_138 : elB Tryz.prog 138 = some (4, 32) := by kernel_rfl
def z89 : Value := Value.slice none 0 0
theorem zt89 : zeroT Tryz.prog 89 = some z89 := by kernel_rfl
theorem zc89 : constA z89 = some (.nl) := by kernel_rfl
theorem sz91 : szT Tryz.prog 91 = some 6 := by kernel_rfl
theorem by91 : bytesT Tryz.prog 91 = some 96 := by kernel_rfl
theorem ag91 : agT Tryz.prog 91 = some true := by kernel_rfl
theorem kn91 : knT Tryz.prog 91 = some .other := by kernel_rfl
theorem fl91_0 : fldT Tryz.prog 91 0 = some (0, 87) := by kernel_rfl
theorem fl91_1 : fldT Tryz.prog 91 1 = some (1, 3) := by kernel_rfl
theorem fl91_2 : fldT Tryz.prog 91 2 = some (2, 3) := by kernel_rfl
theorem fl91_3 : fldT Tryz.prog 91 3 = some (3, 57) := by kernel_rfl
theorem fl91_4 : fldT Tryz.prog 91 4 = some (4, 88) := by kernel_rfl
theorem fl91_5 : fldT Tryz.prog 91 5 = some (5, 89) := by kernel_rfl
theorem pl91 : plcT Tryz.prog 91 = some (.row [(0, 1), (1, 1), (2, 1), (3, 1), (4, 1), (5, 1)]) := by kernel_rfl
def z91 : Value := Value.agg #[Value.int IntKind.i64 0, Value.int IntKind.i64 0, Value.int IntKind.i64 0, Value.slice none 0 0, Value.slice none 0 0, Value.slice none 0 0]
theorem zt91 : zeroT Tryz.prog 91 = some z91 := by kernel_rfl
theorem zc91 : constA z91 = some (.agg [.d (.v (Value.int IntKind.i64 0)), .d (.v (Value.int IntKind.i64 0)), .d (.v (Value.int IntKind.i64 0)), .nl, .nl, .nl]) := by kernel_rfl
theorem sz92 : szT Tryz.prog 92 = some 1 := by kernel_rfl
theorem by92 : bytesT Tryz.prog 92 = some 8 := by kernel_rfl
theorem ag92 : agT Tryz.prog 92 = some false := by kernel_rfl
theorem kn92 : knT Tryz.prog 92 = some .other := by kernel_rfl
def z92 : Value := Value.nilFunc
theorem zt92 : zeroT Tryz.prog 92 = some z92 := by kernel_rfl
theorem zc92 : constA z92 = some (.d (.v (Value.nilFunc))) := by kernel_rfl
theorem sz96 : szT Tryz.prog 96 = some 1 := by kernel_rfl
theorem by96 : bytesT Tryz.prog 96 = some 8 := by kernel_rfl
theorem ag96 : agT Tryz.prog 96 = some false := by kernel_rfl
theorem kn96 : knT Tryz.prog 96 = some .map := by kernel_rfl
theorem mp96 : mpT Tryz.prog 96 = some (9, .one .str, 4) := by kernel_rfl
def z96 : Value := Value.map none
theorem zt96 : zeroT Tryz.prog 96 = some z96 := by kernel_rfl
theorem zc96 : constA z96 = some (.d (.v (Value.map none))) := by kernel_rfl
theorem sz98 : szT Tryz.prog 98 = some 1 := by kernel_rfl
theorem by98 : bytesT Tryz.prog 98 = some 8 := by kernel_rfl
theorem ag98 : agT Tryz.prog 98 = some false := by kernel_rfl
theorem kn98 : knT Tryz.prog 98 = some .other := by kernel_rfl
def z98 : Value := Value.pointer none
theorem zt98 : zeroT Tryz.prog 98 = some z98 := by kernel_rfl
theorem zc98 : constA z98 = some (.d (.v (Value.pointer none))) := by kernel_rfl
theorem sz100 : szT Tryz.prog 100 = some 6 := by kernel_rfl
theorem by100 : bytesT Tryz.prog 100 = some 128 := by kernel_rfl
theorem ag100 : agT Tryz.prog 100 = some true := by kernel_rfl
theorem kn100 : knT Tryz.prog 100 = some .other := by kernel_rfl
theorem fl100_0 : fldT Tryz.prog 100 0 = some (0, 30) := by kernel_rfl
theorem fl100_1 : fldT Tryz.prog 100 1 = some (4, 82) := by kernel_rfl
theorem fl100_2 : fldT Tryz.prog 100 2 = some (5, 4) := by kernel_rfl
theorem pl100 : plcT Tryz.prog 100 = some (.row [(0, 4), (4, 1), (5, 1)]) := by kernel_rfl
def z100 : Value := Value.agg #[Value.slice none 0 0, Value.slice none 0 0, Value.slice none 0 0, Value.slice none 0 0, Value.slice none 0 0, Value.bool false]
theorem zt100 : zeroT Tryz.prog 100 = some z100 := by kernel_rfl
theorem zc100 : constA z100 = some (.agg [.nl, .nl, .nl, .nl, .nl, .d (.v (Value.bool false))]) := by kernel_rfl
theorem sz105 : szT Tryz.prog 105 = some 1 := by kernel_rfl
theorem by105 : bytesT Tryz.prog 105 = some 24 := by kernel_rfl
theorem ag105 : agT Tryz.prog 105 = some false := by kernel_rfl
theorem kn105 : knT Tryz.prog 105 = some .slice := by kernel_rfl
theorem el105 : elT Tryz.prog 105 = some 53 := by kernel_rfl
theorem eb105_53 : elB Tryz.prog 53 = some (4, 96) := by kernel_rfl
def z105 : Value := Value.slice none 0 0
theorem zt105 : zeroT Tryz.prog 105 = some z105 := by kernel_rfl
theorem zc105 : constA z105 = some (.nl) := by kernel_rfl
theorem sz106 : szT Tryz.prog 106 = some 1 := by kernel_rfl
theorem by106 : bytesT Tryz.prog 106 = some 24 := by kernel_rfl
theorem ag106 : agT Tryz.prog 106 = some false := by kernel_rfl
theorem kn106 : knT Tryz.prog 106 = some .slice := by kernel_rfl
theorem el106 : elT Tryz.prog 106 = some 115 := by kernel_rfl
theorem eb106_115 : elB Tryz.prog 115 = some (21, 368) := by kernel_rfl
def z106 : Value := Value.slice none 0 0
theorem zt106 : zeroT Tryz.prog 106 = some z106 := by kernel_rfl
theorem zc106 : constA z106 = some (.nl) := by kernel_rfl
theorem sz108 : szT Tryz.prog 108 = some 2 := by kernel_rfl
theorem by108 : bytesT Tryz.prog 108 = some 32 := by kernel_rfl
theorem ag108 : agT Tryz.prog 108 = some true := by kernel_rfl
theorem kn108 : knT Tryz.prog 108 = some .other := by kernel_rfl
theorem fl108_0 : fldT Tryz.prog 108 0 = some (0, 4) := by kernel_rfl
theorem fl108_1 : fldT Tryz.prog 108 1 = some (1, 106) := by kernel_rfl
theorem pl108 : plcT Tryz.prog 108 = some (.row [(0, 1), (1, 1)]) := by kernel_rfl
def z108 : Value := Value.agg #[Value.bool false, Value.slice none 0 0]
theorem zt108 : zeroT Tryz.prog 108 = some z108 := by kernel_rfl
theorem zc108 : constA z108 = some (.agg [.d (.v (Value.bool false)), .nl]) := by kernel_rfl
theorem sz109 : szT Tryz.prog 109 = some 1 := by kernel_rfl
theorem by109 : bytesT Tryz.prog 109 = some 8 := by kernel_rfl
theorem ag109 : agT Tryz.prog 109 = some false := by kernel_rfl
theorem kn109 : knT Tryz.prog 109 = some (.int .i64) := by kernel_rfl
def z109 : Value := Value.int IntKind.i64 0
theorem zt109 : zeroT Tryz.prog 109 = some z109 := by kernel_rfl
theorem zc109 : constA z109 = some (.d (.v (Value.int IntKind.i64 0))) := by kernel_rfl
theorem sz110 : szT Tryz.prog 110 = some 1 := by kernel_rfl
theorem by110 : bytesT Tryz.prog 110 = some 24 := by kernel_rfl
theorem ag110 : agT Tryz.prog 110 = some false := by kernel_rfl
theorem kn110 : knT Tryz.prog 110 = some .slice := by kernel_rfl
theorem el110 : elT Tryz.prog 110 = some 113 := by kernel_rfl
theorem eb110_113 : elB Tryz.prog 113 = some (16, 280) := by kernel_rfl
def z110 : Value := Value.slice none 0 0
theorem zt110 : zeroT Tryz.prog 110 = some z110 := by kernel_rfl
theorem zc110 : constA z110 = some (.nl) := by kernel_rfl
theorem sz111 : szT Tryz.prog 111 = some 1 := by kernel_rfl
theorem by111 : bytesT Tryz.prog 111 = some 24 := by kernel_rfl
theorem ag111 : agT Tryz.prog 111 = some false := by kernel_rfl
theorem kn111 : knT Tryz.prog 111 = some .slice := by kernel_rfl
theorem el111 : elT Tryz.prog 111 = some 235 := by kernel_rfl
theorem eb111_235 : elB Tryz.prog 235 = some (20, 336) := by kernel_rfl
def z111 : Value := Value.slice none 0 0
theorem zt111 : zeroT Tryz.prog 111 = some z111 := by kernel_rfl
theorem zc111 : constA z111 = some (.nl) := by kernel_rfl
theorem sz113 : szT Tryz.prog 113 = some 16 := by kernel_rfl
theorem by113 : bytesT Tryz.prog 113 = some 280 := by kernel_rfl
theorem ag113 : agT Tryz.prog 113 = some true := by kernel_rfl
theorem kn113 : knT Tryz.prog 113 = some .other := by kernel_rfl
theorem fl113_0 : fldT Tryz.prog 113 0 = some (0, 109) := by kernel_rfl
theorem fl113_1 : fldT Tryz.prog 113 1 = some (1, 9) := by kernel_rfl
theorem fl113_2 : fldT Tryz.prog 113 2 = some (2, 3) := by kernel_rfl
theorem fl113_3 : fldT Tryz.prog 113 3 = some (3, 46) := by kernel_rfl
theorem fl113_4 : fldT Tryz.prog 113 4 = some (7, 43) := by kernel_rfl
theorem fl113_5 : fldT Tryz.prog 113 5 = some (8, 46) := by kernel_rfl
theorem fl113_6 : fldT Tryz.prog 113 6 = some (12, 110) := by kernel_rfl
theorem fl113_7 : fldT Tryz.prog 113 7 = some (13, 4) := by kernel_rfl
theorem fl113_8 : fldT Tryz.prog 113 8 = some (14, 106) := by kernel_rfl
theorem fl113_9 : fldT Tryz.prog 113 9 = some (15, 111) := by kernel_rfl
theorem pl113 : plcT Tryz.prog 113 = some (.row [(0, 1), (1, 1), (2, 1), (3, 4), (7, 1), (8, 4), (12, 1), (13, 1), (14, 1), (15, 1)]) := by kernel_rfl
def z113 : Value := Value.agg #[Value.int IntKind.i64 0, Value.string { data := #[] }, Value.int IntKind.i64 0, Value.int IntKind.i64 0, Value.string { data := #[] }, Value.slice none 0 0, Value.slice none 0 0, Value.slice none 0 0, Value.int IntKind.i64 0, Value.string { data := #[] }, Value.slice none 0 0, Value.slice none 0 0, Value.slice none 0 0, Value.bool false, Value.slice none 0 0, Value.slice none 0 0]
theorem zt113 : zeroT Tryz.prog 113 = some z113 := by kernel_rfl
theorem zc113 : constA z113 = some (.agg [.d (.v (Value.int IntKind.i64 0)), .d (.v (Value.string { data := #[] })), .d (.v (Value.int IntKind.i64 0)), .d (.v (Value.int IntKind.i64 0)), .d (.v (Value.string { data := #[] })), .nl, .nl, .nl, .d (.v (Value.int IntKind.i64 0)), .d (.v (Value.string { data := #[] })), .nl, .nl, .nl, .d (.v (Value.bool false)), .nl, .nl]) := by kernel_rfl
theorem sz115 : szT Tryz.prog 115 = some 21 := by kernel_rfl
theorem by115 : bytesT Tryz.prog 115 = some 368 := by kernel_rfl
theorem ag115 : agT Tryz.prog 115 = some true := by kernel_rfl
theorem kn115 : knT Tryz.prog 115 = some .other := by kernel_rfl
theorem fl115_0 : fldT Tryz.prog 115 0 = some (0, 9) := by kernel_rfl
theorem fl115_1 : fldT Tryz.prog 115 1 = some (1, 46) := by kernel_rfl
theorem fl115_2 : fldT Tryz.prog 115 2 = some (5, 113) := by kernel_rfl
theorem pl115 : plcT Tryz.prog 115 = some (.row [(0, 1), (1, 4), (5, 16)]) := by kernel_rfl
def z115 : Value := Value.agg #[Value.string { data := #[] }, Value.int IntKind.i64 0, Value.string { data := #[] }, Value.slice none 0 0, Value.slice none 0 0, Value.int IntKind.i64 0, Value.string { data := #[] }, Value.int IntKind.i64 0, Value.int IntKind.i64 0, Value.string { data := #[] }, Value.slice none 0 0, Value.slice none 0 0, Value.slice none 0 0, Value.int IntKind.i64 0, Value.string { data := #[] }, Value.slice none 0 0, Value.slice none 0 0, Value.slice none 0 0, Value.bool false, Value.slice none 0 0, Value.slice none 0 0]
theorem zt115 : zeroT Tryz.prog 115 = some z115 := by kernel_rfl
theorem zc115 : constA z115 = some (.agg [.d (.v (Value.string { data := #[] })), .d (.v (Value.int IntKind.i64 0)), .d (.v (Value.string { data := #[] })), .nl, .nl, .d (.v (Value.int IntKind.i64 0)), .d (.v (Value.string { data := #[] })), .d (.v (Value.int IntKind.i64 0)), .d (.v (Value.int IntKind.i64 0)), .d (.v (Value.string { data := #[] })), .nl, .nl, .nl, .d (.v (Value.int IntKind.i64 0)), .d (.v (Value.string { data := #[] })), .nl, .nl, .nl, .d (.v (Value.bool false)), .nl, .nl]) := by kernel_rfl
theorem sz121 : szT Tryz.prog 121 = some 1 := by kernel_rfl
theorem by121 : bytesT Tryz.prog 121 = some 24 := by kernel_rfl
theorem ag121 : agT Tryz.prog 121 = some false := by kernel_rfl
theorem kn121 : knT Tryz.prog 121 = some .slice := by kernel_rfl
theorem el121 : elT Tryz.prog 121 = some 190 := by kernel_rfl
theorem eb121_190 : elB Tryz.prog 190 = some (2, 40) := by kernel_rfl
def z121 : Value := Value.slice none 0 0
theorem zt121 : zeroT Tryz.prog 121 = some z121 := by kernel_rfl
theorem zc121 : constA z121 = some (.nl) := by kernel_rfl
theorem sz122 : szT Tryz.prog 122 = some 1 := by kernel_rfl
theorem by122 : bytesT Tryz.prog 122 = some 24 := by kernel_rfl
theorem ag122 : agT Tryz.prog 122 = some false := by kernel_rfl
theorem kn122 : knT Tryz.prog 122 = some .slice := by kernel_rfl
theorem el122 : elT Tryz.prog 122 = some 149 := by kernel_rfl
theorem eb122_149 : elB Tryz.prog 149 = some (3, 64) := by kernel_rfl
def z122 : Value := Value.slice none 0 0
theorem zt122 : zeroT Tryz.prog 122 = some z122 := by kernel_rfl
theorem zc122 : constA z122 = some (.nl) := by kernel_rfl
theorem sz124 : szT Tryz.prog 124 = some 3 := by kernel_rfl
theorem by124 : bytesT Tryz.prog 124 = some 64 := by kernel_rfl
theorem ag124 : agT Tryz.prog 124 = some true := by kernel_rfl
theorem kn124 : knT Tryz.prog 124 = some .other := by kernel_rfl
theorem fl124_0 : fldT Tryz.prog 124 0 = some (0, 9) := by kernel_rfl
theorem fl124_1 : fldT Tryz.prog 124 1 = some (1, 121) := by kernel_rfl
theorem fl124_2 : fldT Tryz.prog 124 2 = some (2, 122) := by kernel_rfl
theorem pl124 : plcT Tryz.prog 124 = some (.row [(0, 1), (1, 1), (2, 1)]) := by kernel_rfl
def z124 : Value := Value.agg #[Value.string { data := #[] }, Value.slice none 0 0, Value.slice none 0 0]
theorem zt124 : zeroT Tryz.prog 124 = some z124 := by kernel_rfl
theorem zc124 : constA z124 = some (.agg [.d (.v (Value.string { data := #[] })), .nl, .nl]) := by kernel_rfl
theorem sz127 : szT Tryz.prog 127 = some 1 := by kernel_rfl
theorem by127 : bytesT Tryz.prog 127 = some 8 := by kernel_rfl
theorem ag127 : agT Tryz.prog 127 = some false := by kernel_rfl
theorem kn127 : knT Tryz.prog 127 = some .other := by kernel_rfl
def z127 : Value := Value.pointer none
theorem zt127 : zeroT Tryz.prog 127 = some z127 := by kernel_rfl
theorem zc127 : constA z127 = some (.d (.v (Value.pointer none))) := by kernel_rfl
theorem sz136 : szT Tryz.prog 136 = some 1 := by kernel_rfl
theorem by136 : bytesT Tryz.prog 136 = some 8 := by kernel_rfl
theorem ag136 : agT Tryz.prog 136 = some false := by kernel_rfl
theorem kn136 : knT Tryz.prog 136 = some (.int .i64) := by kernel_rfl
def z136 : Value := Value.int IntKind.i64 0
theorem zt136 : zeroT Tryz.prog 136 = some z136 := by kernel_rfl
theorem zc136 : constA z136 = some (.d (.v (Value.int IntKind.i64 0))) := by kernel_rfl
theorem sz138 : szT Tryz.prog 138 = some 4 := by kernel_rfl
theorem by138 : bytesT Tryz.prog 138 = some 32 := by kernel_rfl
theorem ag138 : agT Tryz.prog 138 = some true := by kernel_rfl
theorem kn138 : knT Tryz.prog 138 = some .other := by kernel_rfl
theorem eq138 : eqT Tryz.prog 138 = some [.int .i64, .int .i64, .int .i64, .int .i64] := by kernel_rfl
theorem fl138_0 : fldT Tryz.prog 138 0 = some (0, 136) := by kernel_rfl
theorem fl138_1 : fldT Tryz.prog 138 1 = some (1, 3) := by kernel_rfl
theorem fl138_2 : fldT Tryz.prog 138 2 = some (2, 3) := by kernel_rfl
theorem fl138_3 : fldT Tryz.prog 138 3 = some (3, 3) := by kernel_rfl
theorem pl138 : plcT Tryz.prog 138 = some (.row [(0, 1), (1, 1), (2, 1), (3, 1)]) := by kernel_rfl
def z138 : Value := Value.agg #[Value.int IntKind.i64 0, Value.int IntKind.i64 0, Value.int IntKind.i64 0, Value.int IntKind.i64 0]
theorem zt138 : zeroT Tryz.prog 138 = some z138 := by kernel_rfl
theorem zc138 : constA z138 = some (.d (.agg [.v (Value.int IntKind.i64 0), .v (Value.int IntKind.i64 0), .v (Value.int IntKind.i64 0), .v (Value.int IntKind.i64 0)])) := by kernel_rfl
theorem sz141 : szT Tryz.prog 141 = some 1 := by kernel_rfl
theorem by141 : bytesT Tryz.prog 141 = some 24 := by kernel_rfl
theorem ag141 : agT Tryz.prog 141 = some false := by kernel_rfl
theorem kn141 : knT Tryz.prog 141 = some .slice := by kernel_rfl
theorem el141 : elT Tryz.prog 141 = some 4 := by kernel_rfl
theorem eb141_4 : elB Tryz.prog 4 = some (1, 1) := by kernel_rfl
def z141 : Value := Value.slice none 0 0
theorem zt141 : zeroT Tryz.prog 141 = some z141 := by kernel_rfl
theorem zc141 : constA z141 = some (.nl) := by kernel_rfl
theorem sz149 : szT Tryz.prog 149 = some 3 := by kernel_rfl
theorem by149 : bytesT Tryz.prog 149 = some 64 := by kernel_rfl
theorem ag149 : agT Tryz.prog 149 = some true := by kernel_rfl
theorem kn149 : knT Tryz.prog 149 = some .other := by kernel_rfl
theorem fl149_0 : fldT Tryz.prog 149 0 = some (0, 9) := by kernel_rfl
theorem fl149_1 : fldT Tryz.prog 149 1 = some (1, 44) := by kernel_rfl
theorem fl149_2 : fldT Tryz.prog 149 2 = some (2, 26) := by kernel_rfl
theorem pl149 : plcT Tryz.prog 149 = some (.row [(0, 1), (1, 1), (2, 1)]) := by kernel_rfl
def z149 : Value := Value.agg #[Value.string { data := #[] }, Value.slice none 0 0, Value.slice none 0 0]
theorem zt149 : zeroT Tryz.prog 149 = some z149 := by kernel_rfl
theorem zc149 : constA z149 = some (.agg [.d (.v (Value.string { data := #[] })), .nl, .nl]) := by kernel_rfl
theorem sz162 : szT Tryz.prog 162 = some 1 := by kernel_rfl
theorem by162 : bytesT Tryz.prog 162 = some 24 := by kernel_rfl
theorem ag162 : agT Tryz.prog 162 = some false := by kernel_rfl
theorem kn162 : knT Tryz.prog 162 = some .slice := by kernel_rfl
theorem el162 : elT Tryz.prog 162 = some 211 := by kernel_rfl
theorem eb162_211 : elB Tryz.prog 211 = some (8, 144) := by kernel_rfl
def z162 : Value := Value.slice none 0 0
theorem zt162 : zeroT Tryz.prog 162 = some z162 := by kernel_rfl
theorem zc162 : constA z162 = some (.nl) := by kernel_rfl
theorem sz164 : szT Tryz.prog 164 = some 1 := by kernel_rfl
theorem by164 : bytesT Tryz.prog 164 = some 8 := by kernel_rfl
theorem ag164 : agT Tryz.prog 164 = some false := by kernel_rfl
theorem kn164 : knT Tryz.prog 164 = some .map := by kernel_rfl
theorem mp164 : mpT Tryz.prog 164 = some (3, .one (.int .i64), 172) := by kernel_rfl
def z164 : Value := Value.map none
theorem zt164 : zeroT Tryz.prog 164 = some z164 := by kernel_rfl
theorem zc164 : constA z164 = some (.d (.v (Value.map none))) := by kernel_rfl
theorem sz166 : szT Tryz.prog 166 = some 6 := by kernel_rfl
theorem by166 : bytesT Tryz.prog 166 = some 128 := by kernel_rfl
theorem ag166 : agT Tryz.prog 166 = some true := by kernel_rfl
theorem kn166 : knT Tryz.prog 166 = some .other := by kernel_rfl
theorem fl166_0 : fldT Tryz.prog 166 0 = some (0, 30) := by kernel_rfl
theorem fl166_1 : fldT Tryz.prog 166 1 = some (4, 162) := by kernel_rfl
theorem fl166_2 : fldT Tryz.prog 166 2 = some (5, 164) := by kernel_rfl
theorem pl166 : plcT Tryz.prog 166 = some (.row [(0, 4), (4, 1), (5, 1)]) := by kernel_rfl
def z166 : Value := Value.agg #[Value.slice none 0 0, Value.slice none 0 0, Value.slice none 0 0, Value.slice none 0 0, Value.slice none 0 0, Value.map none]
theorem zt166 : zeroT Tryz.prog 166 = some z166 := by kernel_rfl
theorem zc166 : constA z166 = some (.agg [.nl, .nl, .nl, .nl, .nl, .d (.v (Value.map none))]) := by kernel_rfl
theorem sz170 : szT Tryz.prog 170 = some 1 := by kernel_rfl
theorem by170 : bytesT Tryz.prog 170 = some 8 := by kernel_rfl
theorem ag170 : agT Tryz.prog 170 = some false := by kernel_rfl
theorem kn170 : knT Tryz.prog 170 = some .map := by kernel_rfl
theorem mp170 : mpT Tryz.prog 170 = some (3, .one (.int .i64), 4) := by kernel_rfl
def z170 : Value := Value.map none
theorem zt170 : zeroT Tryz.prog 170 = some z170 := by kernel_rfl
theorem zc170 : constA z170 = some (.d (.v (Value.map none))) := by kernel_rfl
theorem sz172 : szT Tryz.prog 172 = some 3 := by kernel_rfl
theorem by172 : bytesT Tryz.prog 172 = some 24 := by kernel_rfl
theorem ag172 : agT Tryz.prog 172 = some true := by kernel_rfl
theorem kn172 : knT Tryz.prog 172 = some .other := by kernel_rfl
theorem fl172_0 : fldT Tryz.prog 172 0 = some (0, 3) := by kernel_rfl
theorem fl172_1 : fldT Tryz.prog 172 1 = some (1, 170) := by kernel_rfl
theorem fl172_2 : fldT Tryz.prog 172 2 = some (2, 3) := by kernel_rfl
theorem pl172 : plcT Tryz.prog 172 = some (.row [(0, 1), (1, 1), (2, 1)]) := by kernel_rfl
def z172 : Value := Value.agg #[Value.int IntKind.i64 0, Value.map none, Value.int IntKind.i64 0]
theorem zt172 : zeroT Tryz.prog 172 = some z172 := by kernel_rfl
theorem zc172 : constA z172 = some (.d (.agg [.v (Value.int IntKind.i64 0), .v (Value.map none), .v (Value.int IntKind.i64 0)])) := by kernel_rfl
theorem sz174 : szT Tryz.prog 174 = some 1 := by kernel_rfl
theorem by174 : bytesT Tryz.prog 174 = some 24 := by kernel_rfl
theorem ag174 : agT Tryz.prog 174 = some false := by kernel_rfl
theorem kn174 : knT Tryz.prog 174 = some .slice := by kernel_rfl
theorem el174 : elT Tryz.prog 174 = some 228 := by kernel_rfl
theorem eb174_228 : elB Tryz.prog 228 = some (11, 200) := by kernel_rfl
def z174 : Value := Value.slice none 0 0
theorem zt174 : zeroT Tryz.prog 174 = some z174 := by kernel_rfl
theorem zc174 : constA z174 = some (.nl) := by kernel_rfl
theorem sz176 : szT Tryz.prog 176 = some 2 := by kernel_rfl
theorem by176 : bytesT Tryz.prog 176 = some 48 := by kernel_rfl
theorem ag176 : agT Tryz.prog 176 = some true := by kernel_rfl
theorem kn176 : knT Tryz.prog 176 = some .other := by kernel_rfl
theorem fl176_0 : fldT Tryz.prog 176 0 = some (0, 25) := by kernel_rfl
theorem fl176_1 : fldT Tryz.prog 176 1 = some (1, 174) := by kernel_rfl
theorem pl176 : plcT Tryz.prog 176 = some (.row [(0, 1), (1, 1)]) := by kernel_rfl
def z176 : Value := Value.agg #[Value.slice none 0 0, Value.slice none 0 0]
theorem zt176 : zeroT Tryz.prog 176 = some z176 := by kernel_rfl
theorem zc176 : constA z176 = some (.agg [.nl, .nl]) := by kernel_rfl
theorem sz179 : szT Tryz.prog 179 = some 1 := by kernel_rfl
theorem by179 : bytesT Tryz.prog 179 = some 8 := by kernel_rfl
theorem ag179 : agT Tryz.prog 179 = some false := by kernel_rfl
theorem kn179 : knT Tryz.prog 179 = some (.int .i64) := by kernel_rfl
def z179 : Value := Value.int IntKind.i64 0
theorem zt179 : zeroT Tryz.prog 179 = some z179 := by kernel_rfl
theorem zc179 : constA z179 = some (.d (.v (Value.int IntKind.i64 0))) := by kernel_rfl
theorem sz181 : szT Tryz.prog 181 = some 2 := by kernel_rfl
theorem by181 : bytesT Tryz.prog 181 = some 16 := by kernel_rfl
theorem ag181 : agT Tryz.prog 181 = some true := by kernel_rfl
theorem kn181 : knT Tryz.prog 181 = some .other := by kernel_rfl
theorem eq181 : eqT Tryz.prog 181 = some [.int .i64, .int .i64] := by kernel_rfl
theorem fl181_0 : fldT Tryz.prog 181 0 = some (0, 179) := by kernel_rfl
theorem fl181_1 : fldT Tryz.prog 181 1 = some (1, 3) := by kernel_rfl
theorem pl181 : plcT Tryz.prog 181 = some (.row [(0, 1), (1, 1)]) := by kernel_rfl
def z181 : Value := Value.agg #[Value.int IntKind.i64 0, Value.int IntKind.i64 0]
theorem zt181 : zeroT Tryz.prog 181 = some z181 := by kernel_rfl
theorem zc181 : constA z181 = some (.d (.agg [.v (Value.int IntKind.i64 0), .v (Value.int IntKind.i64 0)])) := by kernel_rfl
theorem sz182 : szT Tryz.prog 182 = some 1 := by kernel_rfl
theorem by182 : bytesT Tryz.prog 182 = some 8 := by kernel_rfl
theorem ag182 : agT Tryz.prog 182 = some false := by kernel_rfl
theorem kn182 : knT Tryz.prog 182 = some .other := by kernel_rfl
def z182 : Value := Value.nilFunc
theorem zt182 : zeroT Tryz.prog 182 = some z182 := by kernel_rfl
theorem zc182 : constA z182 = some (.d (.v (Value.nilFunc))) := by kernel_rfl
theorem sz185 : szT Tryz.prog 185 = some 1 := by kernel_rfl
theorem by185 : bytesT Tryz.prog 185 = some 8 := by kernel_rfl
theorem ag185 : agT Tryz.prog 185 = some false := by kernel_rfl
theorem kn185 : knT Tryz.prog 185 = some .other := by kernel_rfl
def z185 : Value := Value.nilFunc
theorem zt185 : zeroT Tryz.prog 185 = some z185 := by kernel_rfl
theorem zc185 : constA z185 = some (.d (.v (Value.nilFunc))) := by kernel_rfl
theorem sz190 : szT Tryz.prog 190 = some 2 := by kernel_rfl
theorem by190 : bytesT Tryz.prog 190 = some 40 := by kernel_rfl
theorem ag190 : agT Tryz.prog 190 = some true := by kernel_rfl
theorem kn190 : knT Tryz.prog 190 = some .other := by kernel_rfl
theorem fl190_0 : fldT Tryz.prog 190 0 = some (0, 9) := by kernel_rfl
theorem fl190_1 : fldT Tryz.prog 190 1 = some (1, 43) := by kernel_rfl
theorem pl190 : plcT Tryz.prog 190 = some (.row [(0, 1), (1, 1)]) := by kernel_rfl
def z190 : Value := Value.agg #[Value.string { data := #[] }, Value.slice none 0 0]
theorem zt190 : zeroT Tryz.prog 190 = some z190 := by kernel_rfl
theorem zc190 : constA z190 = some (.agg [.d (.v (Value.string { data := #[] })), .nl]) := by kernel_rfl
theorem sz207 : szT Tryz.prog 207 = some 1 := by kernel_rfl
theorem by207 : bytesT Tryz.prog 207 = some 24 := by kernel_rfl
theorem ag207 : agT Tryz.prog 207 = some false := by kernel_rfl
theorem kn207 : knT Tryz.prog 207 = some .slice := by kernel_rfl
theorem el207 : elT Tryz.prog 207 = some 447 := by kernel_rfl
theorem eb207_447 : elB Tryz.prog 447 = some (5, 88) := by kernel_rfl
def z207 : Value := Value.slice none 0 0
theorem zt207 : zeroT Tryz.prog 207 = some z207 := by kernel_rfl
theorem zc207 : constA z207 = some (.nl) := by kernel_rfl
theorem sz209 : szT Tryz.prog 209 = some 6 := by kernel_rfl
theorem by209 : bytesT Tryz.prog 209 = some 120 := by kernel_rfl
theorem ag209 : agT Tryz.prog 209 = some true := by kernel_rfl
theorem kn209 : knT Tryz.prog 209 = some .other := by kernel_rfl
theorem fl209_0 : fldT Tryz.prog 209 0 = some (0, 121) := by kernel_rfl
theorem fl209_1 : fldT Tryz.prog 209 1 = some (1, 207) := by kernel_rfl
theorem fl209_2 : fldT Tryz.prog 209 2 = some (2, 46) := by kernel_rfl
theorem pl209 : plcT Tryz.prog 209 = some (.row [(0, 1), (1, 1), (2, 4)]) := by kernel_rfl
def z209 : Value := Value.agg #[Value.slice none 0 0, Value.slice none 0 0, Value.int IntKind.i64 0, Value.string { data := #[] }, Value.slice none 0 0, Value.slice none 0 0]
theorem zt209 : zeroT Tryz.prog 209 = some z209 := by kernel_rfl
theorem zc209 : constA z209 = some (.agg [.nl, .nl, .d (.v (Value.int IntKind.i64 0)), .d (.v (Value.string { data := #[] })), .nl, .nl]) := by kernel_rfl
theorem sz211 : szT Tryz.prog 211 = some 8 := by kernel_rfl
theorem by211 : bytesT Tryz.prog 211 = some 144 := by kernel_rfl
theorem ag211 : agT Tryz.prog 211 = some true := by kernel_rfl
theorem kn211 : knT Tryz.prog 211 = some .other := by kernel_rfl
theorem fl211_0 : fldT Tryz.prog 211 0 = some (0, 9) := by kernel_rfl
theorem fl211_1 : fldT Tryz.prog 211 1 = some (1, 209) := by kernel_rfl
theorem fl211_2 : fldT Tryz.prog 211 2 = some (7, 3) := by kernel_rfl
theorem pl211 : plcT Tryz.prog 211 = some (.row [(0, 1), (1, 6), (7, 1)]) := by kernel_rfl
def z211 : Value := Value.agg #[Value.string { data := #[] }, Value.slice none 0 0, Value.slice none 0 0, Value.int IntKind.i64 0, Value.string { data := #[] }, Value.slice none 0 0, Value.slice none 0 0, Value.int IntKind.i64 0]
theorem zt211 : zeroT Tryz.prog 211 = some z211 := by kernel_rfl
theorem zc211 : constA z211 = some (.agg [.d (.v (Value.string { data := #[] })), .nl, .nl, .d (.v (Value.int IntKind.i64 0)), .d (.v (Value.string { data := #[] })), .nl, .nl, .d (.v (Value.int IntKind.i64 0))]) := by kernel_rfl
theorem sz221 : szT Tryz.prog 221 = some 1 := by kernel_rfl
theorem by221 : bytesT Tryz.prog 221 = some 8 := by kernel_rfl
theorem ag221 : agT Tryz.prog 221 = some false := by kernel_rfl
theorem kn221 : knT Tryz.prog 221 = some (.int .i64) := by kernel_rfl
def z221 : Value := Value.int IntKind.i64 0
theorem zt221 : zeroT Tryz.prog 221 = some z221 := by kernel_rfl
theorem zc221 : constA z221 = some (.d (.v (Value.int IntKind.i64 0))) := by kernel_rfl
theorem sz222 : szT Tryz.prog 222 = some 1 := by kernel_rfl
theorem by222 : bytesT Tryz.prog 222 = some 24 := by kernel_rfl
theorem ag222 : agT Tryz.prog 222 = some false := by kernel_rfl
theorem kn222 : knT Tryz.prog 222 = some .slice := by kernel_rfl
theorem el222 : elT Tryz.prog 222 = some 319 := by kernel_rfl
theorem eb222_319 : elB Tryz.prog 319 = some (3, 32) := by kernel_rfl
def z222 : Value := Value.slice none 0 0
theorem zt222 : zeroT Tryz.prog 222 = some z222 := by kernel_rfl
theorem zc222 : constA z222 = some (.nl) := by kernel_rfl
theorem sz223 : szT Tryz.prog 223 = some 1 := by kernel_rfl
theorem by223 : bytesT Tryz.prog 223 = some 24 := by kernel_rfl
theorem ag223 : agT Tryz.prog 223 = some false := by kernel_rfl
theorem kn223 : knT Tryz.prog 223 = some .slice := by kernel_rfl
theorem el223 : elT Tryz.prog 223 = some 226 := by kernel_rfl
theorem eb223_226 : elB Tryz.prog 226 = some (7, 128) := by kernel_rfl
def z223 : Value := Value.slice none 0 0
theorem zt223 : zeroT Tryz.prog 223 = some z223 := by kernel_rfl
theorem zc223 : constA z223 = some (.nl) := by kernel_rfl
theorem sz224 : szT Tryz.prog 224 = some 1 := by kernel_rfl
theorem by224 : bytesT Tryz.prog 224 = some 24 := by kernel_rfl
theorem ag224 : agT Tryz.prog 224 = some false := by kernel_rfl
theorem kn224 : knT Tryz.prog 224 = some .slice := by kernel_rfl
theorem el224 : elT Tryz.prog 224 = some 312 := by kernel_rfl
theorem eb224_312 : elB Tryz.prog 312 = some (11, 184) := by kernel_rfl
def z224 : Value := Value.slice none 0 0
theorem zt224 : zeroT Tryz.prog 224 = some z224 := by kernel_rfl
theorem zc224 : constA z224 = some (.nl) := by kernel_rfl
theorem sz226 : szT Tryz.prog 226 = some 7 := by kernel_rfl
theorem by226 : bytesT Tryz.prog 226 = some 128 := by kernel_rfl
theorem ag226 : agT Tryz.prog 226 = some true := by kernel_rfl
theorem kn226 : knT Tryz.prog 226 = some .other := by kernel_rfl
theorem fl226_0 : fldT Tryz.prog 226 0 = some (0, 221) := by kernel_rfl
theorem fl226_1 : fldT Tryz.prog 226 1 = some (1, 9) := by kernel_rfl
theorem fl226_2 : fldT Tryz.prog 226 2 = some (2, 222) := by kernel_rfl
theorem fl226_3 : fldT Tryz.prog 226 3 = some (3, 4) := by kernel_rfl
theorem fl226_4 : fldT Tryz.prog 226 4 = some (4, 174) := by kernel_rfl
theorem fl226_5 : fldT Tryz.prog 226 5 = some (5, 223) := by kernel_rfl
theorem fl226_6 : fldT Tryz.prog 226 6 = some (6, 224) := by kernel_rfl
theorem pl226 : plcT Tryz.prog 226 = some (.row [(0, 1), (1, 1), (2, 1), (3, 1), (4, 1), (5, 1), (6, 1)]) := by kernel_rfl
def z226 : Value := Value.agg #[Value.int IntKind.i64 0, Value.string { data := #[] }, Value.slice none 0 0, Value.bool false, Value.slice none 0 0, Value.slice none 0 0, Value.slice none 0 0]
theorem zt226 : zeroT Tryz.prog 226 = some z226 := by kernel_rfl
theorem zc226 : constA z226 = some (.agg [.d (.v (Value.int IntKind.i64 0)), .d (.v (Value.string { data := #[] })), .nl, .d (.v (Value.bool false)), .nl, .nl, .nl]) := by kernel_rfl
theorem sz228 : szT Tryz.prog 228 = some 11 := by kernel_rfl
theorem by228 : bytesT Tryz.prog 228 = some 200 := by kernel_rfl
theorem ag228 : agT Tryz.prog 228 = some true := by kernel_rfl
theorem kn228 : knT Tryz.prog 228 = some .other := by kernel_rfl
theorem fl228_0 : fldT Tryz.prog 228 0 = some (0, 9) := by kernel_rfl
theorem fl228_1 : fldT Tryz.prog 228 1 = some (1, 56) := by kernel_rfl
theorem fl228_2 : fldT Tryz.prog 228 2 = some (2, 26) := by kernel_rfl
theorem fl228_3 : fldT Tryz.prog 228 3 = some (3, 26) := by kernel_rfl
theorem fl228_4 : fldT Tryz.prog 228 4 = some (4, 226) := by kernel_rfl
theorem pl228 : plcT Tryz.prog 228 = some (.row [(0, 1), (1, 1), (2, 1), (3, 1), (4, 7)]) := by kernel_rfl
def z228 : Value := Value.agg #[Value.string { data := #[] }, Value.int IntKind.i64 0, Value.slice none 0 0, Value.slice none 0 0, Value.int IntKind.i64 0, Value.string { data := #[] }, Value.slice none 0 0, Value.bool false, Value.slice none 0 0, Value.slice none 0 0, Value.slice none 0 0]
theorem zt228 : zeroT Tryz.prog 228 = some z228 := by kernel_rfl
theorem zc228 : constA z228 = some (.agg [.d (.v (Value.string { data := #[] })), .d (.v (Value.int IntKind.i64 0)), .nl, .nl, .d (.v (Value.int IntKind.i64 0)), .d (.v (Value.string { data := #[] })), .nl, .d (.v (Value.bool false)), .nl, .nl, .nl]) := by kernel_rfl
theorem sz235 : szT Tryz.prog 235 = some 20 := by kernel_rfl
theorem by235 : bytesT Tryz.prog 235 = some 336 := by kernel_rfl
theorem ag235 : agT Tryz.prog 235 = some true := by kernel_rfl
theorem kn235 : knT Tryz.prog 235 = some .other := by kernel_rfl
theorem fl235_0 : fldT Tryz.prog 235 0 = some (0, 136) := by kernel_rfl
theorem fl235_1 : fldT Tryz.prog 235 1 = some (1, 9) := by kernel_rfl
theorem fl235_2 : fldT Tryz.prog 235 2 = some (2, 3) := by kernel_rfl
theorem fl235_3 : fldT Tryz.prog 235 3 = some (3, 49) := by kernel_rfl
theorem fl235_4 : fldT Tryz.prog 235 4 = some (4, 113) := by kernel_rfl
theorem pl235 : plcT Tryz.prog 235 = some (.row [(0, 1), (1, 1), (2, 1), (3, 1), (4, 16)]) := by kernel_rfl
def z235 : Value := Value.agg #[Value.int IntKind.i64 0, Value.string { data := #[] }, Value.int IntKind.i64 0, Value.slice none 0 0, Value.int IntKind.i64 0, Value.string { data := #[] }, Value.int IntKind.i64 0, Value.int IntKind.i64 0, Value.string { data := #[] }, Value.slice none 0 0, Value.slice none 0 0, Value.slice none 0 0, Value.int IntKind.i64 0, Value.string { data := #[] }, Value.slice none 0 0, Value.slice none 0 0, Value.slice none 0 0, Value.bool false, Value.slice none 0 0, Value.slice none 0 0]
theorem zt235 : zeroT Tryz.prog 235 = some z235 := by kernel_rfl
theorem zc235 : constA z235 = some (.agg [.d (.v (Value.int IntKind.i64 0)), .d (.v (Value.string { data := #[] })), .d (.v (Value.int IntKind.i64 0)), .nl, .d (.v (Value.int IntKind.i64 0)), .d (.v (Value.string { data := #[] })), .d (.v (Value.int IntKind.i64 0)), .d (.v (Value.int IntKind.i64 0)), .d (.v (Value.string { data := #[] })), .nl, .nl, .nl, .d (.v (Value.int IntKind.i64 0)), .d (.v (Value.string { data := #[] })), .nl, .nl, .nl, .d (.v (Value.bool false)), .nl, .nl]) := by kernel_rfl
theorem sz312 : szT Tryz.prog 312 = some 11 := by kernel_rfl
theorem by312 : bytesT Tryz.prog 312 = some 184 := by kernel_rfl
theorem ag312 : agT Tryz.prog 312 = some true := by kernel_rfl
theorem kn312 : knT Tryz.prog 312 = some .other := by kernel_rfl
theorem fl312_0 : fldT Tryz.prog 312 0 = some (0, 136) := by kernel_rfl
theorem fl312_1 : fldT Tryz.prog 312 1 = some (1, 9) := by kernel_rfl
theorem fl312_2 : fldT Tryz.prog 312 2 = some (2, 3) := by kernel_rfl
theorem fl312_3 : fldT Tryz.prog 312 3 = some (3, 26) := by kernel_rfl
theorem fl312_4 : fldT Tryz.prog 312 4 = some (4, 226) := by kernel_rfl
theorem pl312 : plcT Tryz.prog 312 = some (.row [(0, 1), (1, 1), (2, 1), (3, 1), (4, 7)]) := by kernel_rfl
def z312 : Value := Value.agg #[Value.int IntKind.i64 0, Value.string { data := #[] }, Value.int IntKind.i64 0, Value.slice none 0 0, Value.int IntKind.i64 0, Value.string { data := #[] }, Value.slice none 0 0, Value.bool false, Value.slice none 0 0, Value.slice none 0 0, Value.slice none 0 0]
theorem zt312 : zeroT Tryz.prog 312 = some z312 := by kernel_rfl
theorem zc312 : constA z312 = some (.agg [.d (.v (Value.int IntKind.i64 0)), .d (.v (Value.string { data := #[] })), .d (.v (Value.int IntKind.i64 0)), .nl, .d (.v (Value.int IntKind.i64 0)), .d (.v (Value.string { data := #[] })), .nl, .d (.v (Value.bool false)), .nl, .nl, .nl]) := by kernel_rfl
theorem sz317 : szT Tryz.prog 317 = some 1 := by kernel_rfl
theorem by317 : bytesT Tryz.prog 317 = some 8 := by kernel_rfl
theorem ag317 : agT Tryz.prog 317 = some false := by kernel_rfl
theorem kn317 : knT Tryz.prog 317 = some (.int .i64) := by kernel_rfl
def z317 : Value := Value.int IntKind.i64 0
theorem zt317 : zeroT Tryz.prog 317 = some z317 := by kernel_rfl
theorem zc317 : constA z317 = some (.d (.v (Value.int IntKind.i64 0))) := by kernel_rfl
theorem sz319 : szT Tryz.prog 319 = some 3 := by kernel_rfl
theorem by319 : bytesT Tryz.prog 319 = some 32 := by kernel_rfl
theorem ag319 : agT Tryz.prog 319 = some true := by kernel_rfl
theorem kn319 : knT Tryz.prog 319 = some .other := by kernel_rfl
theorem fl319_0 : fldT Tryz.prog 319 0 = some (0, 317) := by kernel_rfl
theorem fl319_1 : fldT Tryz.prog 319 1 = some (1, 9) := by kernel_rfl
theorem fl319_2 : fldT Tryz.prog 319 2 = some (2, 3) := by kernel_rfl
theorem pl319 : plcT Tryz.prog 319 = some (.row [(0, 1), (1, 1), (2, 1)]) := by kernel_rfl
def z319 : Value := Value.agg #[Value.int IntKind.i64 0, Value.string { data := #[] }, Value.int IntKind.i64 0]
theorem zt319 : zeroT Tryz.prog 319 = some z319 := by kernel_rfl
theorem zc319 : constA z319 = some (.d (.agg [.v (Value.int IntKind.i64 0), .v (Value.string { data := #[] }), .v (Value.int IntKind.i64 0)])) := by kernel_rfl
theorem sz447 : szT Tryz.prog 447 = some 5 := by kernel_rfl
theorem by447 : bytesT Tryz.prog 447 = some 88 := by kernel_rfl
theorem ag447 : agT Tryz.prog 447 = some true := by kernel_rfl
theorem kn447 : knT Tryz.prog 447 = some .other := by kernel_rfl
theorem fl447_0 : fldT Tryz.prog 447 0 = some (0, 9) := by kernel_rfl
theorem fl447_1 : fldT Tryz.prog 447 1 = some (1, 46) := by kernel_rfl
theorem pl447 : plcT Tryz.prog 447 = some (.row [(0, 1), (1, 4)]) := by kernel_rfl
def z447 : Value := Value.agg #[Value.string { data := #[] }, Value.int IntKind.i64 0, Value.string { data := #[] }, Value.slice none 0 0, Value.slice none 0 0]
theorem zt447 : zeroT Tryz.prog 447 = some z447 := by kernel_rfl
theorem zc447 : constA z447 = some (.agg [.d (.v (Value.string { data := #[] })), .d (.v (Value.int IntKind.i64 0)), .d (.v (Value.string { data := #[] })), .nl, .nl]) := by kernel_rfl
theorem tb0 : (type_of% @rs137) ∧ (type_of% @Tryz.ntmps137) ∧ (type_of% @rs184) ∧ (type_of% @Tryz.ntmps184) ∧ (type_of% @rs185) ∧ (type_of% @Tryz.ntmps185) ∧ (type_of% @rs216) ∧ (type_of% @Tryz.ntmps216) ∧ (type_of% @rs217) ∧ (type_of% @Tryz.ntmps217) ∧ (type_of% @rs249) ∧ (type_of% @Tryz.ntmps249) ∧ (type_of% @rs134) ∧ (type_of% @Tryz.ntmps134) ∧ (type_of% @rs135) ∧ (type_of% @Tryz.ntmps135) ∧ (type_of% @rs3) ∧ (type_of% @Tryz.ntmps3) ∧ (type_of% @rs4) ∧ (type_of% @Tryz.ntmps4) ∧ (type_of% @rs5) ∧ (type_of% @Tryz.ntmps5) ∧ (type_of% @rs6) ∧ (type_of% @Tryz.ntmps6) ∧ (type_of% @rs7) ∧ (type_of% @Tryz.ntmps7) ∧ (type_of% @rs8) ∧ (type_of% @Tryz.ntmps8) ∧ (type_of% @rs9) ∧ (type_of% @Tryz.ntmps9) ∧ (type_of% @rs10) ∧ (type_of% @Tryz.ntmps10) ∧ (type_of% @rs11) ∧ (type_of% @Tryz.ntmps11) ∧ (type_of% @rs12) ∧ (type_of% @Tryz.ntmps12) ∧ (type_of% @rs13) ∧ (type_of% @Tryz.ntmps13) ∧ (type_of% @rs14) ∧ (type_of% @Tryz.ntmps14) :=
  ⟨@rs137, @Tryz.ntmps137, @rs184, @Tryz.ntmps184, @rs185, @Tryz.ntmps185, @rs216, @Tryz.ntmps216, @rs217, @Tryz.ntmps217, @rs249, @Tryz.ntmps249, @rs134, @Tryz.ntmps134, @rs135, @Tryz.ntmps135, @rs3, @Tryz.ntmps3, @rs4, @Tryz.ntmps4, @rs5, @Tryz.ntmps5, @rs6, @Tryz.ntmps6, @rs7, @Tryz.ntmps7, @rs8, @Tryz.ntmps8, @rs9, @Tryz.ntmps9, @rs10, @Tryz.ntmps10, @rs11, @Tryz.ntmps11, @rs12, @Tryz.ntmps12, @rs13, @Tryz.ntmps13, @rs14, @Tryz.ntmps14⟩
theorem tb1 : (type_of% @rs16) ∧ (type_of% @Tryz.ntmps16) ∧ (type_of% @rs17) ∧ (type_of% @Tryz.ntmps17) ∧ (type_of% @rs18) ∧ (type_of% @Tryz.ntmps18) ∧ (type_of% @rs19) ∧ (type_of% @Tryz.ntmps19) ∧ (type_of% @rs20) ∧ (type_of% @Tryz.ntmps20) ∧ (type_of% @rs21) ∧ (type_of% @Tryz.ntmps21) ∧ (type_of% @rs22) ∧ (type_of% @Tryz.ntmps22) ∧ (type_of% @rs23) ∧ (type_of% @Tryz.ntmps23) ∧ (type_of% @rs24) ∧ (type_of% @Tryz.ntmps24) ∧ (type_of% @rs25) ∧ (type_of% @Tryz.ntmps25) ∧ (type_of% @rs26) ∧ (type_of% @Tryz.ntmps26) ∧ (type_of% @rs27) ∧ (type_of% @Tryz.ntmps27) ∧ (type_of% @rs28) ∧ (type_of% @Tryz.ntmps28) ∧ (type_of% @rs29) ∧ (type_of% @Tryz.ntmps29) ∧ (type_of% @rs30) ∧ (type_of% @Tryz.ntmps30) ∧ (type_of% @rs31) ∧ (type_of% @Tryz.ntmps31) ∧ (type_of% @rs32) ∧ (type_of% @Tryz.ntmps32) ∧ (type_of% @rs33) ∧ (type_of% @Tryz.ntmps33) ∧ (type_of% @rs34) ∧ (type_of% @Tryz.ntmps34) ∧ (type_of% @rs35) ∧ (type_of% @Tryz.ntmps35) :=
  ⟨@rs16, @Tryz.ntmps16, @rs17, @Tryz.ntmps17, @rs18, @Tryz.ntmps18, @rs19, @Tryz.ntmps19, @rs20, @Tryz.ntmps20, @rs21, @Tryz.ntmps21, @rs22, @Tryz.ntmps22, @rs23, @Tryz.ntmps23, @rs24, @Tryz.ntmps24, @rs25, @Tryz.ntmps25, @rs26, @Tryz.ntmps26, @rs27, @Tryz.ntmps27, @rs28, @Tryz.ntmps28, @rs29, @Tryz.ntmps29, @rs30, @Tryz.ntmps30, @rs31, @Tryz.ntmps31, @rs32, @Tryz.ntmps32, @rs33, @Tryz.ntmps33, @rs34, @Tryz.ntmps34, @rs35, @Tryz.ntmps35⟩
theorem tb2 : (type_of% @rs36) ∧ (type_of% @Tryz.ntmps36) ∧ (type_of% @rs37) ∧ (type_of% @Tryz.ntmps37) ∧ (type_of% @rs43) ∧ (type_of% @Tryz.ntmps43) ∧ (type_of% @rs44) ∧ (type_of% @Tryz.ntmps44) ∧ (type_of% @rs45) ∧ (type_of% @Tryz.ntmps45) ∧ (type_of% @rs46) ∧ (type_of% @Tryz.ntmps46) ∧ (type_of% @rs47) ∧ (type_of% @Tryz.ntmps47) ∧ (type_of% @rs48) ∧ (type_of% @Tryz.ntmps48) ∧ (type_of% @rs49) ∧ (type_of% @Tryz.ntmps49) ∧ (type_of% @rs50) ∧ (type_of% @Tryz.ntmps50) ∧ (type_of% @rs51) ∧ (type_of% @Tryz.ntmps51) ∧ (type_of% @rs52) ∧ (type_of% @Tryz.ntmps52) ∧ (type_of% @rs53) ∧ (type_of% @Tryz.ntmps53) ∧ (type_of% @rs54) ∧ (type_of% @Tryz.ntmps54) ∧ (type_of% @rs55) ∧ (type_of% @Tryz.ntmps55) ∧ (type_of% @rs56) ∧ (type_of% @Tryz.ntmps56) ∧ (type_of% @rs69) ∧ (type_of% @Tryz.ntmps69) ∧ (type_of% @rs70) ∧ (type_of% @Tryz.ntmps70) ∧ (type_of% @rs71) ∧ (type_of% @Tryz.ntmps71) ∧ (type_of% @rs73) ∧ (type_of% @Tryz.ntmps73) :=
  ⟨@rs36, @Tryz.ntmps36, @rs37, @Tryz.ntmps37, @rs43, @Tryz.ntmps43, @rs44, @Tryz.ntmps44, @rs45, @Tryz.ntmps45, @rs46, @Tryz.ntmps46, @rs47, @Tryz.ntmps47, @rs48, @Tryz.ntmps48, @rs49, @Tryz.ntmps49, @rs50, @Tryz.ntmps50, @rs51, @Tryz.ntmps51, @rs52, @Tryz.ntmps52, @rs53, @Tryz.ntmps53, @rs54, @Tryz.ntmps54, @rs55, @Tryz.ntmps55, @rs56, @Tryz.ntmps56, @rs69, @Tryz.ntmps69, @rs70, @Tryz.ntmps70, @rs71, @Tryz.ntmps71, @rs73, @Tryz.ntmps73⟩
theorem tb3 : (type_of% @rs74) ∧ (type_of% @Tryz.ntmps74) ∧ (type_of% @rs75) ∧ (type_of% @Tryz.ntmps75) ∧ (type_of% @rs76) ∧ (type_of% @Tryz.ntmps76) ∧ (type_of% @rs77) ∧ (type_of% @Tryz.ntmps77) ∧ (type_of% @rs78) ∧ (type_of% @Tryz.ntmps78) ∧ (type_of% @rs79) ∧ (type_of% @Tryz.ntmps79) ∧ (type_of% @rs97) ∧ (type_of% @Tryz.ntmps97) ∧ (type_of% @rs98) ∧ (type_of% @Tryz.ntmps98) ∧ (type_of% @rs99) ∧ (type_of% @Tryz.ntmps99) ∧ (type_of% @rs100) ∧ (type_of% @Tryz.ntmps100) ∧ (type_of% @rs105) ∧ (type_of% @Tryz.ntmps105) ∧ (type_of% @rs138) ∧ (type_of% @Tryz.ntmps138) ∧ (type_of% @rs139) ∧ (type_of% @Tryz.ntmps139) ∧ (type_of% @rs186) ∧ (type_of% @Tryz.ntmps186) ∧ (type_of% @rs187) ∧ (type_of% @Tryz.ntmps187) ∧ (type_of% @rs188) ∧ (type_of% @Tryz.ntmps188) ∧ (type_of% @rs189) ∧ (type_of% @Tryz.ntmps189) ∧ (type_of% @rs218) ∧ (type_of% @Tryz.ntmps218) ∧ (type_of% @sz3) ∧ (type_of% @by3) ∧ (type_of% @ag3) ∧ (type_of% @kn3) :=
  ⟨@rs74, @Tryz.ntmps74, @rs75, @Tryz.ntmps75, @rs76, @Tryz.ntmps76, @rs77, @Tryz.ntmps77, @rs78, @Tryz.ntmps78, @rs79, @Tryz.ntmps79, @rs97, @Tryz.ntmps97, @rs98, @Tryz.ntmps98, @rs99, @Tryz.ntmps99, @rs100, @Tryz.ntmps100, @rs105, @Tryz.ntmps105, @rs138, @Tryz.ntmps138, @rs139, @Tryz.ntmps139, @rs186, @Tryz.ntmps186, @rs187, @Tryz.ntmps187, @rs188, @Tryz.ntmps188, @rs189, @Tryz.ntmps189, @rs218, @Tryz.ntmps218, @sz3, @by3, @ag3, @kn3⟩
theorem tb4 : (type_of% @zt3) ∧ (type_of% @zc3) ∧ (type_of% @sz4) ∧ (type_of% @by4) ∧ (type_of% @ag4) ∧ (type_of% @kn4) ∧ (type_of% @zt4) ∧ (type_of% @zc4) ∧ (type_of% @sz5) ∧ (type_of% @by5) ∧ (type_of% @ag5) ∧ (type_of% @kn5) ∧ (type_of% @zt5) ∧ (type_of% @zc5) ∧ (type_of% @sz9) ∧ (type_of% @by9) ∧ (type_of% @ag9) ∧ (type_of% @kn9) ∧ (type_of% @zt9) ∧ (type_of% @zc9) ∧ (type_of% @sz20) ∧ (type_of% @by20) ∧ (type_of% @ag20) ∧ (type_of% @kn20) ∧ (type_of% @zt20) ∧ (type_of% @zc20) ∧ (type_of% @sz22) ∧ (type_of% @by22) ∧ (type_of% @ag22) ∧ (type_of% @kn22) ∧ (type_of% @el22) ∧ (type_of% @eb22_30) ∧ (type_of% @zt22) ∧ (type_of% @zc22) ∧ (type_of% @sz25) ∧ (type_of% @by25) ∧ (type_of% @ag25) ∧ (type_of% @kn25) ∧ (type_of% @el25) ∧ (type_of% @eb25_63) :=
  ⟨@zt3, @zc3, @sz4, @by4, @ag4, @kn4, @zt4, @zc4, @sz5, @by5, @ag5, @kn5, @zt5, @zc5, @sz9, @by9, @ag9, @kn9, @zt9, @zc9, @sz20, @by20, @ag20, @kn20, @zt20, @zc20, @sz22, @by22, @ag22, @kn22, @el22, @eb22_30, @zt22, @zc22, @sz25, @by25, @ag25, @kn25, @el25, @eb25_63⟩
theorem tb5 : (type_of% @zt25) ∧ (type_of% @zc25) ∧ (type_of% @sz26) ∧ (type_of% @by26) ∧ (type_of% @ag26) ∧ (type_of% @kn26) ∧ (type_of% @el26) ∧ (type_of% @eb26_9) ∧ (type_of% @nl26) ∧ (type_of% @zt26) ∧ (type_of% @zc26) ∧ (type_of% @sz27) ∧ (type_of% @by27) ∧ (type_of% @ag27) ∧ (type_of% @kn27) ∧ (type_of% @el27) ∧ (type_of% @eb27_61) ∧ (type_of% @zt27) ∧ (type_of% @zc27) ∧ (type_of% @sz28) ∧ (type_of% @by28) ∧ (type_of% @ag28) ∧ (type_of% @kn28) ∧ (type_of% @el28) ∧ (type_of% @eb28_75) ∧ (type_of% @zt28) ∧ (type_of% @zc28) ∧ (type_of% @sz30) ∧ (type_of% @by30) ∧ (type_of% @ag30) ∧ (type_of% @kn30) ∧ (type_of% @fl30_0) ∧ (type_of% @fl30_1) ∧ (type_of% @fl30_2) ∧ (type_of% @fl30_3) ∧ (type_of% @pl30) ∧ (type_of% @zt30) ∧ (type_of% @zc30) ∧ (type_of% @sz31) ∧ (type_of% @by31) :=
  ⟨@zt25, @zc25, @sz26, @by26, @ag26, @kn26, @el26, @eb26_9, @nl26, @zt26, @zc26, @sz27, @by27, @ag27, @kn27, @el27, @eb27_61, @zt27, @zc27, @sz28, @by28, @ag28, @kn28, @el28, @eb28_75, @zt28, @zc28, @sz30, @by30, @ag30, @kn30, @fl30_0, @fl30_1, @fl30_2, @fl30_3, @pl30, @zt30, @zc30, @sz31, @by31⟩
theorem tb6 : (type_of% @ag31) ∧ (type_of% @kn31) ∧ (type_of% @zt31) ∧ (type_of% @zc31) ∧ (type_of% @sz33) ∧ (type_of% @by33) ∧ (type_of% @ag33) ∧ (type_of% @kn33) ∧ (type_of% @eq33) ∧ (type_of% @fl33_0) ∧ (type_of% @fl33_1) ∧ (type_of% @fl33_2) ∧ (type_of% @fl33_3) ∧ (type_of% @pl33) ∧ (type_of% @zt33) ∧ (type_of% @zc33) ∧ (type_of% @sz40) ∧ (type_of% @by40) ∧ (type_of% @ag40) ∧ (type_of% @kn40) ∧ (type_of% @zt40) ∧ (type_of% @zc40) ∧ (type_of% @sz41) ∧ (type_of% @by41) ∧ (type_of% @ag41) ∧ (type_of% @kn41) ∧ (type_of% @el41) ∧ (type_of% @eb41_43) ∧ (type_of% @zt41) ∧ (type_of% @zc41) ∧ (type_of% @sz43) ∧ (type_of% @by43) ∧ (type_of% @ag43) ∧ (type_of% @kn43) ∧ (type_of% @fl43_0) ∧ (type_of% @pl43) ∧ (type_of% @zt43) ∧ (type_of% @zc43) ∧ (type_of% @sz44) ∧ (type_of% @by44) :=
  ⟨@ag31, @kn31, @zt31, @zc31, @sz33, @by33, @ag33, @kn33, @eq33, @fl33_0, @fl33_1, @fl33_2, @fl33_3, @pl33, @zt33, @zc33, @sz40, @by40, @ag40, @kn40, @zt40, @zc40, @sz41, @by41, @ag41, @kn41, @el41, @eb41_43, @zt41, @zc41, @sz43, @by43, @ag43, @kn43, @fl43_0, @pl43, @zt43, @zc43, @sz44, @by44⟩
theorem tb7 : (type_of% @ag44) ∧ (type_of% @kn44) ∧ (type_of% @el44) ∧ (type_of% @eb44_46) ∧ (type_of% @zt44) ∧ (type_of% @zc44) ∧ (type_of% @sz46) ∧ (type_of% @by46) ∧ (type_of% @ag46) ∧ (type_of% @kn46) ∧ (type_of% @fl46_0) ∧ (type_of% @fl46_1) ∧ (type_of% @fl46_2) ∧ (type_of% @fl46_3) ∧ (type_of% @pl46) ∧ (type_of% @zt46) ∧ (type_of% @zc46) ∧ (type_of% @sz48) ∧ (type_of% @by48) ∧ (type_of% @ag48) ∧ (type_of% @kn48) ∧ (type_of% @fl48_0) ∧ (type_of% @fl48_1) ∧ (type_of% @pl48) ∧ (type_of% @zt48) ∧ (type_of% @zc48) ∧ (type_of% @sz49) ∧ (type_of% @by49) ∧ (type_of% @ag49) ∧ (type_of% @kn49) ∧ (type_of% @el49) ∧ (type_of% @eb49_48) ∧ (type_of% @zt49) ∧ (type_of% @zc49) ∧ (type_of% @sz50) ∧ (type_of% @by50) ∧ (type_of% @ag50) ∧ (type_of% @kn50) ∧ (type_of% @el50) ∧ (type_of% @eb50_124) :=
  ⟨@ag44, @kn44, @el44, @eb44_46, @zt44, @zc44, @sz46, @by46, @ag46, @kn46, @fl46_0, @fl46_1, @fl46_2, @fl46_3, @pl46, @zt46, @zc46, @sz48, @by48, @ag48, @kn48, @fl48_0, @fl48_1, @pl48, @zt48, @zc48, @sz49, @by49, @ag49, @kn49, @el49, @eb49_48, @zt49, @zc49, @sz50, @by50, @ag50, @kn50, @el50, @eb50_124⟩
theorem tb8 : (type_of% @zt50) ∧ (type_of% @zc50) ∧ (type_of% @sz51) ∧ (type_of% @by51) ∧ (type_of% @ag51) ∧ (type_of% @kn51) ∧ (type_of% @el51) ∧ (type_of% @eb51_108) ∧ (type_of% @zt51) ∧ (type_of% @zc51) ∧ (type_of% @sz53) ∧ (type_of% @by53) ∧ (type_of% @ag53) ∧ (type_of% @kn53) ∧ (type_of% @fl53_0) ∧ (type_of% @fl53_1) ∧ (type_of% @fl53_2) ∧ (type_of% @fl53_3) ∧ (type_of% @pl53) ∧ (type_of% @zt53) ∧ (type_of% @zc53) ∧ (type_of% @sz56) ∧ (type_of% @by56) ∧ (type_of% @ag56) ∧ (type_of% @kn56) ∧ (type_of% @zt56) ∧ (type_of% @zc56) ∧ (type_of% @sz57) ∧ (type_of% @by57) ∧ (type_of% @ag57) ∧ (type_of% @kn57) ∧ (type_of% @el57) ∧ (type_of% @eb57_181) ∧ (type_of% @zt57) ∧ (type_of% @zc57) ∧ (type_of% @sz59) ∧ (type_of% @by59) ∧ (type_of% @ag59) ∧ (type_of% @kn59) ∧ (type_of% @fl59_0) :=
  ⟨@zt50, @zc50, @sz51, @by51, @ag51, @kn51, @el51, @eb51_108, @zt51, @zc51, @sz53, @by53, @ag53, @kn53, @fl53_0, @fl53_1, @fl53_2, @fl53_3, @pl53, @zt53, @zc53, @sz56, @by56, @ag56, @kn56, @zt56, @zc56, @sz57, @by57, @ag57, @kn57, @el57, @eb57_181, @zt57, @zc57, @sz59, @by59, @ag59, @kn59, @fl59_0⟩
theorem tb9 : (type_of% @fl59_1) ∧ (type_of% @fl59_2) ∧ (type_of% @fl59_3) ∧ (type_of% @pl59) ∧ (type_of% @zt59) ∧ (type_of% @zc59) ∧ (type_of% @sz61) ∧ (type_of% @by61) ∧ (type_of% @ag61) ∧ (type_of% @kn61) ∧ (type_of% @fl61_0) ∧ (type_of% @fl61_1) ∧ (type_of% @pl61) ∧ (type_of% @zt61) ∧ (type_of% @zc61) ∧ (type_of% @sz63) ∧ (type_of% @by63) ∧ (type_of% @ag63) ∧ (type_of% @kn63) ∧ (type_of% @eq63) ∧ (type_of% @fl63_0) ∧ (type_of% @fl63_1) ∧ (type_of% @fl63_2) ∧ (type_of% @pl63) ∧ (type_of% @zt63) ∧ (type_of% @zc63) ∧ (type_of% @sz66) ∧ (type_of% @by66) ∧ (type_of% @ag66) ∧ (type_of% @kn66) ∧ (type_of% @mp66) ∧ (type_of% @zt66) ∧ (type_of% @zc66) ∧ (type_of% @sz71) ∧ (type_of% @by71) ∧ (type_of% @ag71) ∧ (type_of% @kn71) ∧ (type_of% @fl71_0) ∧ (type_of% @fl71_1) ∧ (type_of% @fl71_2) :=
  ⟨@fl59_1, @fl59_2, @fl59_3, @pl59, @zt59, @zc59, @sz61, @by61, @ag61, @kn61, @fl61_0, @fl61_1, @pl61, @zt61, @zc61, @sz63, @by63, @ag63, @kn63, @eq63, @fl63_0, @fl63_1, @fl63_2, @pl63, @zt63, @zc63, @sz66, @by66, @ag66, @kn66, @mp66, @zt66, @zc66, @sz71, @by71, @ag71, @kn71, @fl71_0, @fl71_1, @fl71_2⟩
theorem tb10 : (type_of% @fl71_3) ∧ (type_of% @fl71_4) ∧ (type_of% @pl71) ∧ (type_of% @zt71) ∧ (type_of% @zc71) ∧ (type_of% @sz73) ∧ (type_of% @by73) ∧ (type_of% @ag73) ∧ (type_of% @kn73) ∧ (type_of% @el73) ∧ (type_of% @eb73_91) ∧ (type_of% @zt73) ∧ (type_of% @zc73) ∧ (type_of% @sz75) ∧ (type_of% @by75) ∧ (type_of% @ag75) ∧ (type_of% @kn75) ∧ (type_of% @fl75_0) ∧ (type_of% @pl75) ∧ (type_of% @zt75) ∧ (type_of% @zc75) ∧ (type_of% @sz76) ∧ (type_of% @by76) ∧ (type_of% @ag76) ∧ (type_of% @kn76) ∧ (type_of% @zt76) ∧ (type_of% @zc76) ∧ (type_of% @sz78) ∧ (type_of% @by78) ∧ (type_of% @ag78) ∧ (type_of% @kn78) ∧ (type_of% @zt78) ∧ (type_of% @zc78) ∧ (type_of% @sz82) ∧ (type_of% @by82) ∧ (type_of% @ag82) ∧ (type_of% @kn82) ∧ (type_of% @el82) ∧ (type_of% @eb82_3) ∧ (type_of% @zt82) :=
  ⟨@fl71_3, @fl71_4, @pl71, @zt71, @zc71, @sz73, @by73, @ag73, @kn73, @el73, @eb73_91, @zt73, @zc73, @sz75, @by75, @ag75, @kn75, @fl75_0, @pl75, @zt75, @zc75, @sz76, @by76, @ag76, @kn76, @zt76, @zc76, @sz78, @by78, @ag78, @kn78, @zt78, @zc78, @sz82, @by82, @ag82, @kn82, @el82, @eb82_3, @zt82⟩
theorem tb11 : (type_of% @zc82) ∧ (type_of% @sz84) ∧ (type_of% @by84) ∧ (type_of% @ag84) ∧ (type_of% @kn84) ∧ (type_of% @fl84_0) ∧ (type_of% @fl84_1) ∧ (type_of% @fl84_2) ∧ (type_of% @pl84) ∧ (type_of% @zt84) ∧ (type_of% @zc84) ∧ (type_of% @sz86) ∧ (type_of% @by86) ∧ (type_of% @ag86) ∧ (type_of% @kn86) ∧ (type_of% @zt86) ∧ (type_of% @zc86) ∧ (type_of% @sz87) ∧ (type_of% @by87) ∧ (type_of% @ag87) ∧ (type_of% @kn87) ∧ (type_of% @zt87) ∧ (type_of% @zc87) ∧ (type_of% @sz88) ∧ (type_of% @by88) ∧ (type_of% @ag88) ∧ (type_of% @kn88) ∧ (type_of% @el88) ∧ (type_of% @eb88_59) ∧ (type_of% @zt88) ∧ (type_of% @zc88) ∧ (type_of% @sz89) ∧ (type_of% @by89) ∧ (type_of% @ag89) ∧ (type_of% @kn89) ∧ (type_of% @el89) ∧ (type_of% @eb89_138) ∧ (type_of% @zt89) ∧ (type_of% @zc89) ∧ (type_of% @sz91) :=
  ⟨@zc82, @sz84, @by84, @ag84, @kn84, @fl84_0, @fl84_1, @fl84_2, @pl84, @zt84, @zc84, @sz86, @by86, @ag86, @kn86, @zt86, @zc86, @sz87, @by87, @ag87, @kn87, @zt87, @zc87, @sz88, @by88, @ag88, @kn88, @el88, @eb88_59, @zt88, @zc88, @sz89, @by89, @ag89, @kn89, @el89, @eb89_138, @zt89, @zc89, @sz91⟩
theorem tb12 : (type_of% @by91) ∧ (type_of% @ag91) ∧ (type_of% @kn91) ∧ (type_of% @fl91_0) ∧ (type_of% @fl91_1) ∧ (type_of% @fl91_2) ∧ (type_of% @fl91_3) ∧ (type_of% @fl91_4) ∧ (type_of% @fl91_5) ∧ (type_of% @pl91) ∧ (type_of% @zt91) ∧ (type_of% @zc91) ∧ (type_of% @sz92) ∧ (type_of% @by92) ∧ (type_of% @ag92) ∧ (type_of% @kn92) ∧ (type_of% @zt92) ∧ (type_of% @zc92) ∧ (type_of% @sz96) ∧ (type_of% @by96) ∧ (type_of% @ag96) ∧ (type_of% @kn96) ∧ (type_of% @mp96) ∧ (type_of% @zt96) ∧ (type_of% @zc96) ∧ (type_of% @sz98) ∧ (type_of% @by98) ∧ (type_of% @ag98) ∧ (type_of% @kn98) ∧ (type_of% @zt98) ∧ (type_of% @zc98) ∧ (type_of% @sz100) ∧ (type_of% @by100) ∧ (type_of% @ag100) ∧ (type_of% @kn100) ∧ (type_of% @fl100_0) ∧ (type_of% @fl100_1) ∧ (type_of% @fl100_2) ∧ (type_of% @pl100) ∧ (type_of% @zt100) :=
  ⟨@by91, @ag91, @kn91, @fl91_0, @fl91_1, @fl91_2, @fl91_3, @fl91_4, @fl91_5, @pl91, @zt91, @zc91, @sz92, @by92, @ag92, @kn92, @zt92, @zc92, @sz96, @by96, @ag96, @kn96, @mp96, @zt96, @zc96, @sz98, @by98, @ag98, @kn98, @zt98, @zc98, @sz100, @by100, @ag100, @kn100, @fl100_0, @fl100_1, @fl100_2, @pl100, @zt100⟩
theorem tb13 : (type_of% @zc100) ∧ (type_of% @sz105) ∧ (type_of% @by105) ∧ (type_of% @ag105) ∧ (type_of% @kn105) ∧ (type_of% @el105) ∧ (type_of% @eb105_53) ∧ (type_of% @zt105) ∧ (type_of% @zc105) ∧ (type_of% @sz106) ∧ (type_of% @by106) ∧ (type_of% @ag106) ∧ (type_of% @kn106) ∧ (type_of% @el106) ∧ (type_of% @eb106_115) ∧ (type_of% @zt106) ∧ (type_of% @zc106) ∧ (type_of% @sz108) ∧ (type_of% @by108) ∧ (type_of% @ag108) ∧ (type_of% @kn108) ∧ (type_of% @fl108_0) ∧ (type_of% @fl108_1) ∧ (type_of% @pl108) ∧ (type_of% @zt108) ∧ (type_of% @zc108) ∧ (type_of% @sz109) ∧ (type_of% @by109) ∧ (type_of% @ag109) ∧ (type_of% @kn109) ∧ (type_of% @zt109) ∧ (type_of% @zc109) ∧ (type_of% @sz110) ∧ (type_of% @by110) ∧ (type_of% @ag110) ∧ (type_of% @kn110) ∧ (type_of% @el110) ∧ (type_of% @eb110_113) ∧ (type_of% @zt110) ∧ (type_of% @zc110) :=
  ⟨@zc100, @sz105, @by105, @ag105, @kn105, @el105, @eb105_53, @zt105, @zc105, @sz106, @by106, @ag106, @kn106, @el106, @eb106_115, @zt106, @zc106, @sz108, @by108, @ag108, @kn108, @fl108_0, @fl108_1, @pl108, @zt108, @zc108, @sz109, @by109, @ag109, @kn109, @zt109, @zc109, @sz110, @by110, @ag110, @kn110, @el110, @eb110_113, @zt110, @zc110⟩
theorem tb14 : (type_of% @sz111) ∧ (type_of% @by111) ∧ (type_of% @ag111) ∧ (type_of% @kn111) ∧ (type_of% @el111) ∧ (type_of% @eb111_235) ∧ (type_of% @zt111) ∧ (type_of% @zc111) ∧ (type_of% @sz113) ∧ (type_of% @by113) ∧ (type_of% @ag113) ∧ (type_of% @kn113) ∧ (type_of% @fl113_0) ∧ (type_of% @fl113_1) ∧ (type_of% @fl113_2) ∧ (type_of% @fl113_3) ∧ (type_of% @fl113_4) ∧ (type_of% @fl113_5) ∧ (type_of% @fl113_6) ∧ (type_of% @fl113_7) ∧ (type_of% @fl113_8) ∧ (type_of% @fl113_9) ∧ (type_of% @pl113) ∧ (type_of% @zt113) ∧ (type_of% @zc113) ∧ (type_of% @sz115) ∧ (type_of% @by115) ∧ (type_of% @ag115) ∧ (type_of% @kn115) ∧ (type_of% @fl115_0) ∧ (type_of% @fl115_1) ∧ (type_of% @fl115_2) ∧ (type_of% @pl115) ∧ (type_of% @zt115) ∧ (type_of% @zc115) ∧ (type_of% @sz121) ∧ (type_of% @by121) ∧ (type_of% @ag121) ∧ (type_of% @kn121) ∧ (type_of% @el121) :=
  ⟨@sz111, @by111, @ag111, @kn111, @el111, @eb111_235, @zt111, @zc111, @sz113, @by113, @ag113, @kn113, @fl113_0, @fl113_1, @fl113_2, @fl113_3, @fl113_4, @fl113_5, @fl113_6, @fl113_7, @fl113_8, @fl113_9, @pl113, @zt113, @zc113, @sz115, @by115, @ag115, @kn115, @fl115_0, @fl115_1, @fl115_2, @pl115, @zt115, @zc115, @sz121, @by121, @ag121, @kn121, @el121⟩
theorem tb15 : (type_of% @eb121_190) ∧ (type_of% @zt121) ∧ (type_of% @zc121) ∧ (type_of% @sz122) ∧ (type_of% @by122) ∧ (type_of% @ag122) ∧ (type_of% @kn122) ∧ (type_of% @el122) ∧ (type_of% @eb122_149) ∧ (type_of% @zt122) ∧ (type_of% @zc122) ∧ (type_of% @sz124) ∧ (type_of% @by124) ∧ (type_of% @ag124) ∧ (type_of% @kn124) ∧ (type_of% @fl124_0) ∧ (type_of% @fl124_1) ∧ (type_of% @fl124_2) ∧ (type_of% @pl124) ∧ (type_of% @zt124) ∧ (type_of% @zc124) ∧ (type_of% @sz127) ∧ (type_of% @by127) ∧ (type_of% @ag127) ∧ (type_of% @kn127) ∧ (type_of% @zt127) ∧ (type_of% @zc127) ∧ (type_of% @sz136) ∧ (type_of% @by136) ∧ (type_of% @ag136) ∧ (type_of% @kn136) ∧ (type_of% @zt136) ∧ (type_of% @zc136) ∧ (type_of% @sz138) ∧ (type_of% @by138) ∧ (type_of% @ag138) ∧ (type_of% @kn138) ∧ (type_of% @eq138) ∧ (type_of% @fl138_0) ∧ (type_of% @fl138_1) :=
  ⟨@eb121_190, @zt121, @zc121, @sz122, @by122, @ag122, @kn122, @el122, @eb122_149, @zt122, @zc122, @sz124, @by124, @ag124, @kn124, @fl124_0, @fl124_1, @fl124_2, @pl124, @zt124, @zc124, @sz127, @by127, @ag127, @kn127, @zt127, @zc127, @sz136, @by136, @ag136, @kn136, @zt136, @zc136, @sz138, @by138, @ag138, @kn138, @eq138, @fl138_0, @fl138_1⟩
theorem tb16 : (type_of% @fl138_2) ∧ (type_of% @fl138_3) ∧ (type_of% @pl138) ∧ (type_of% @zt138) ∧ (type_of% @zc138) ∧ (type_of% @sz141) ∧ (type_of% @by141) ∧ (type_of% @ag141) ∧ (type_of% @kn141) ∧ (type_of% @el141) ∧ (type_of% @eb141_4) ∧ (type_of% @zt141) ∧ (type_of% @zc141) ∧ (type_of% @sz149) ∧ (type_of% @by149) ∧ (type_of% @ag149) ∧ (type_of% @kn149) ∧ (type_of% @fl149_0) ∧ (type_of% @fl149_1) ∧ (type_of% @fl149_2) ∧ (type_of% @pl149) ∧ (type_of% @zt149) ∧ (type_of% @zc149) ∧ (type_of% @sz162) ∧ (type_of% @by162) ∧ (type_of% @ag162) ∧ (type_of% @kn162) ∧ (type_of% @el162) ∧ (type_of% @eb162_211) ∧ (type_of% @zt162) ∧ (type_of% @zc162) ∧ (type_of% @sz164) ∧ (type_of% @by164) ∧ (type_of% @ag164) ∧ (type_of% @kn164) ∧ (type_of% @mp164) ∧ (type_of% @zt164) ∧ (type_of% @zc164) ∧ (type_of% @sz166) ∧ (type_of% @by166) :=
  ⟨@fl138_2, @fl138_3, @pl138, @zt138, @zc138, @sz141, @by141, @ag141, @kn141, @el141, @eb141_4, @zt141, @zc141, @sz149, @by149, @ag149, @kn149, @fl149_0, @fl149_1, @fl149_2, @pl149, @zt149, @zc149, @sz162, @by162, @ag162, @kn162, @el162, @eb162_211, @zt162, @zc162, @sz164, @by164, @ag164, @kn164, @mp164, @zt164, @zc164, @sz166, @by166⟩
theorem tb17 : (type_of% @ag166) ∧ (type_of% @kn166) ∧ (type_of% @fl166_0) ∧ (type_of% @fl166_1) ∧ (type_of% @fl166_2) ∧ (type_of% @pl166) ∧ (type_of% @zt166) ∧ (type_of% @zc166) ∧ (type_of% @sz170) ∧ (type_of% @by170) ∧ (type_of% @ag170) ∧ (type_of% @kn170) ∧ (type_of% @mp170) ∧ (type_of% @zt170) ∧ (type_of% @zc170) ∧ (type_of% @sz172) ∧ (type_of% @by172) ∧ (type_of% @ag172) ∧ (type_of% @kn172) ∧ (type_of% @fl172_0) ∧ (type_of% @fl172_1) ∧ (type_of% @fl172_2) ∧ (type_of% @pl172) ∧ (type_of% @zt172) ∧ (type_of% @zc172) ∧ (type_of% @sz174) ∧ (type_of% @by174) ∧ (type_of% @ag174) ∧ (type_of% @kn174) ∧ (type_of% @el174) ∧ (type_of% @eb174_228) ∧ (type_of% @zt174) ∧ (type_of% @zc174) ∧ (type_of% @sz176) ∧ (type_of% @by176) ∧ (type_of% @ag176) ∧ (type_of% @kn176) ∧ (type_of% @fl176_0) ∧ (type_of% @fl176_1) ∧ (type_of% @pl176) :=
  ⟨@ag166, @kn166, @fl166_0, @fl166_1, @fl166_2, @pl166, @zt166, @zc166, @sz170, @by170, @ag170, @kn170, @mp170, @zt170, @zc170, @sz172, @by172, @ag172, @kn172, @fl172_0, @fl172_1, @fl172_2, @pl172, @zt172, @zc172, @sz174, @by174, @ag174, @kn174, @el174, @eb174_228, @zt174, @zc174, @sz176, @by176, @ag176, @kn176, @fl176_0, @fl176_1, @pl176⟩
theorem tb18 : (type_of% @zt176) ∧ (type_of% @zc176) ∧ (type_of% @sz179) ∧ (type_of% @by179) ∧ (type_of% @ag179) ∧ (type_of% @kn179) ∧ (type_of% @zt179) ∧ (type_of% @zc179) ∧ (type_of% @sz181) ∧ (type_of% @by181) ∧ (type_of% @ag181) ∧ (type_of% @kn181) ∧ (type_of% @eq181) ∧ (type_of% @fl181_0) ∧ (type_of% @fl181_1) ∧ (type_of% @pl181) ∧ (type_of% @zt181) ∧ (type_of% @zc181) ∧ (type_of% @sz182) ∧ (type_of% @by182) ∧ (type_of% @ag182) ∧ (type_of% @kn182) ∧ (type_of% @zt182) ∧ (type_of% @zc182) ∧ (type_of% @sz185) ∧ (type_of% @by185) ∧ (type_of% @ag185) ∧ (type_of% @kn185) ∧ (type_of% @zt185) ∧ (type_of% @zc185) ∧ (type_of% @sz190) ∧ (type_of% @by190) ∧ (type_of% @ag190) ∧ (type_of% @kn190) ∧ (type_of% @fl190_0) ∧ (type_of% @fl190_1) ∧ (type_of% @pl190) ∧ (type_of% @zt190) ∧ (type_of% @zc190) ∧ (type_of% @sz207) :=
  ⟨@zt176, @zc176, @sz179, @by179, @ag179, @kn179, @zt179, @zc179, @sz181, @by181, @ag181, @kn181, @eq181, @fl181_0, @fl181_1, @pl181, @zt181, @zc181, @sz182, @by182, @ag182, @kn182, @zt182, @zc182, @sz185, @by185, @ag185, @kn185, @zt185, @zc185, @sz190, @by190, @ag190, @kn190, @fl190_0, @fl190_1, @pl190, @zt190, @zc190, @sz207⟩
theorem tb19 : (type_of% @by207) ∧ (type_of% @ag207) ∧ (type_of% @kn207) ∧ (type_of% @el207) ∧ (type_of% @eb207_447) ∧ (type_of% @zt207) ∧ (type_of% @zc207) ∧ (type_of% @sz209) ∧ (type_of% @by209) ∧ (type_of% @ag209) ∧ (type_of% @kn209) ∧ (type_of% @fl209_0) ∧ (type_of% @fl209_1) ∧ (type_of% @fl209_2) ∧ (type_of% @pl209) ∧ (type_of% @zt209) ∧ (type_of% @zc209) ∧ (type_of% @sz211) ∧ (type_of% @by211) ∧ (type_of% @ag211) ∧ (type_of% @kn211) ∧ (type_of% @fl211_0) ∧ (type_of% @fl211_1) ∧ (type_of% @fl211_2) ∧ (type_of% @pl211) ∧ (type_of% @zt211) ∧ (type_of% @zc211) ∧ (type_of% @sz221) ∧ (type_of% @by221) ∧ (type_of% @ag221) ∧ (type_of% @kn221) ∧ (type_of% @zt221) ∧ (type_of% @zc221) ∧ (type_of% @sz222) ∧ (type_of% @by222) ∧ (type_of% @ag222) ∧ (type_of% @kn222) ∧ (type_of% @el222) ∧ (type_of% @eb222_319) ∧ (type_of% @zt222) :=
  ⟨@by207, @ag207, @kn207, @el207, @eb207_447, @zt207, @zc207, @sz209, @by209, @ag209, @kn209, @fl209_0, @fl209_1, @fl209_2, @pl209, @zt209, @zc209, @sz211, @by211, @ag211, @kn211, @fl211_0, @fl211_1, @fl211_2, @pl211, @zt211, @zc211, @sz221, @by221, @ag221, @kn221, @zt221, @zc221, @sz222, @by222, @ag222, @kn222, @el222, @eb222_319, @zt222⟩
theorem tb20 : (type_of% @zc222) ∧ (type_of% @sz223) ∧ (type_of% @by223) ∧ (type_of% @ag223) ∧ (type_of% @kn223) ∧ (type_of% @el223) ∧ (type_of% @eb223_226) ∧ (type_of% @zt223) ∧ (type_of% @zc223) ∧ (type_of% @sz224) ∧ (type_of% @by224) ∧ (type_of% @ag224) ∧ (type_of% @kn224) ∧ (type_of% @el224) ∧ (type_of% @eb224_312) ∧ (type_of% @zt224) ∧ (type_of% @zc224) ∧ (type_of% @sz226) ∧ (type_of% @by226) ∧ (type_of% @ag226) ∧ (type_of% @kn226) ∧ (type_of% @fl226_0) ∧ (type_of% @fl226_1) ∧ (type_of% @fl226_2) ∧ (type_of% @fl226_3) ∧ (type_of% @fl226_4) ∧ (type_of% @fl226_5) ∧ (type_of% @fl226_6) ∧ (type_of% @pl226) ∧ (type_of% @zt226) ∧ (type_of% @zc226) ∧ (type_of% @sz228) ∧ (type_of% @by228) ∧ (type_of% @ag228) ∧ (type_of% @kn228) ∧ (type_of% @fl228_0) ∧ (type_of% @fl228_1) ∧ (type_of% @fl228_2) ∧ (type_of% @fl228_3) ∧ (type_of% @fl228_4) :=
  ⟨@zc222, @sz223, @by223, @ag223, @kn223, @el223, @eb223_226, @zt223, @zc223, @sz224, @by224, @ag224, @kn224, @el224, @eb224_312, @zt224, @zc224, @sz226, @by226, @ag226, @kn226, @fl226_0, @fl226_1, @fl226_2, @fl226_3, @fl226_4, @fl226_5, @fl226_6, @pl226, @zt226, @zc226, @sz228, @by228, @ag228, @kn228, @fl228_0, @fl228_1, @fl228_2, @fl228_3, @fl228_4⟩
theorem tb21 : (type_of% @pl228) ∧ (type_of% @zt228) ∧ (type_of% @zc228) ∧ (type_of% @sz235) ∧ (type_of% @by235) ∧ (type_of% @ag235) ∧ (type_of% @kn235) ∧ (type_of% @fl235_0) ∧ (type_of% @fl235_1) ∧ (type_of% @fl235_2) ∧ (type_of% @fl235_3) ∧ (type_of% @fl235_4) ∧ (type_of% @pl235) ∧ (type_of% @zt235) ∧ (type_of% @zc235) ∧ (type_of% @sz312) ∧ (type_of% @by312) ∧ (type_of% @ag312) ∧ (type_of% @kn312) ∧ (type_of% @fl312_0) ∧ (type_of% @fl312_1) ∧ (type_of% @fl312_2) ∧ (type_of% @fl312_3) ∧ (type_of% @fl312_4) ∧ (type_of% @pl312) ∧ (type_of% @zt312) ∧ (type_of% @zc312) ∧ (type_of% @sz317) ∧ (type_of% @by317) ∧ (type_of% @ag317) ∧ (type_of% @kn317) ∧ (type_of% @zt317) ∧ (type_of% @zc317) ∧ (type_of% @sz319) ∧ (type_of% @by319) ∧ (type_of% @ag319) ∧ (type_of% @kn319) ∧ (type_of% @fl319_0) ∧ (type_of% @fl319_1) ∧ (type_of% @fl319_2) :=
  ⟨@pl228, @zt228, @zc228, @sz235, @by235, @ag235, @kn235, @fl235_0, @fl235_1, @fl235_2, @fl235_3, @fl235_4, @pl235, @zt235, @zc235, @sz312, @by312, @ag312, @kn312, @fl312_0, @fl312_1, @fl312_2, @fl312_3, @fl312_4, @pl312, @zt312, @zc312, @sz317, @by317, @ag317, @kn317, @zt317, @zc317, @sz319, @by319, @ag319, @kn319, @fl319_0, @fl319_1, @fl319_2⟩
theorem tb22 : (type_of% @pl319) ∧ (type_of% @zt319) ∧ (type_of% @zc319) ∧ (type_of% @sz447) ∧ (type_of% @by447) ∧ (type_of% @ag447) ∧ (type_of% @kn447) ∧ (type_of% @fl447_0) ∧ (type_of% @fl447_1) ∧ (type_of% @pl447) ∧ (type_of% @zt447) ∧ (type_of% @zc447) :=
  ⟨@pl319, @zt319, @zc319, @sz447, @by447, @ag447, @kn447, @fl447_0, @fl447_1, @pl447, @zt447, @zc447⟩
-- bundles: tb0, tb1, tb2, tb3, tb4, tb5, tb6, tb7, tb8, tb9, tb10, tb11, tb12, tb13, tb14, tb15, tb16, tb17, tb18, tb19, tb20, tb21, tb22

theorem gs : (∀ x : Bool, (true && x) = x) ∧ (∀ x : Bool, (false && x) = false) ∧ (∀ x : Bool, (x && true) = x) ∧ (∀ x : Bool, (true || x) = true) ∧ (∀ x : Bool, (false || x) = x) ∧ (decide True = true) ∧ (decide False = false) ∧ ((!true) = false) ∧ ((!false) = true) ∧ (∀ p : Prop, (True ∧ p) = p) ∧ (∀ p : Prop, (p ∧ True) = p) := ⟨by simp, by simp, by simp, by simp, by simp, by simp, by simp, rfl, rfl, by simp, by simp⟩
theorem tbs : (type_of% @tb0) ∧ (type_of% @tb1) ∧ (type_of% @tb2) ∧ (type_of% @tb3) ∧ (type_of% @tb4) ∧ (type_of% @tb5) ∧ (type_of% @tb6) ∧ (type_of% @tb7) ∧ (type_of% @tb8) ∧ (type_of% @tb9) ∧ (type_of% @tb10) ∧ (type_of% @tb11) ∧ (type_of% @tb12) ∧ (type_of% @tb13) ∧ (type_of% @tb14) ∧ (type_of% @tb15) ∧ (type_of% @tb16) ∧ (type_of% @tb17) ∧ (type_of% @tb18) ∧ (type_of% @tb19) ∧ (type_of% @tb20) ∧ (type_of% @tb21) ∧ (type_of% @tb22) := ⟨tb0, tb1, tb2, tb3, tb4, tb5, tb6, tb7, tb8, tb9, tb10, tb11, tb12, tb13, tb14, tb15, tb16, tb17, tb18, tb19, tb20, tb21, tb22⟩
theorem ams : (type_of% @am0) ∧ (type_of% @am1) ∧ (type_of% @am2) ∧ (type_of% @am3) ∧ (type_of% @am4) ∧ (type_of% @am5) ∧ (type_of% @am6) ∧ (type_of% @am7) ∧ (type_of% @am8) ∧ (type_of% @am9) ∧ (type_of% @am10) ∧ (type_of% @gs) := ⟨am0, am1, am2, am3, am4, am5, am6, am7, am8, am9, am10, gs⟩
end Go.AM
end
section
namespace Go.Proofs
open Go.Shelf
def Tryz.lays146_ren : Go.Shelf.Ren := ⟨fun | 146 => 136 | 221 => 183 | 268 => 213 | 138 => 214 | 143 => 215 | 195 => 245 | 197 => 246 | 218 => 247 | 219 => 248 | 260 => 268 | 217 => 261 | 225 => 269 | 224 => 270 | 267 => 271 | 266 => 278 | 314 => 283 | n => n, fun | 9 => 9 | 31 => 26 | 3 => 3 | 4 => 4 | 0 => 0 | 105 => 374 | 21 => 21 | 5 => 5 | 46 => 387 | 119 => 299 | 139 => 408 | 138 => 407 | 146 => 409 | 51 => 340 | n => n, fun | 1 => 2 | 3 => 5 | 4 => 6 | n => n⟩
theorem Tryz.lays146 : Go.Proofs.Lays.n146 Tryz.prog Tryz.lays146_ren := {
  mixed := by kernel_rfl
  f138 := Tryz.func214.trans (congrArg some (by kernel_rfl))
  f143 := Tryz.func215.trans (congrArg some (by kernel_rfl))
  f146 := Tryz.func136.trans (congrArg some (by kernel_rfl))
  f195 := Tryz.func245.trans (congrArg some (by kernel_rfl))
  f197 := Tryz.func246.trans (congrArg some (by kernel_rfl))
  f217 := Tryz.func261.trans (congrArg some (by kernel_rfl))
  f218 := Tryz.func247.trans (congrArg some (by kernel_rfl))
  f219 := Tryz.func248.trans (congrArg some (by kernel_rfl))
  f221 := Tryz.func183.trans (congrArg some (by kernel_rfl))
  f224 := Tryz.func270.trans (congrArg some (by kernel_rfl))
  f225 := Tryz.func269.trans (congrArg some (by kernel_rfl))
  f260 := Tryz.func268.trans (congrArg some (by kernel_rfl))
  f266 := Tryz.func278.trans (congrArg some (by kernel_rfl))
  f267 := Tryz.func271.trans (congrArg some (by kernel_rfl))
  f268 := Tryz.func213.trans (congrArg some (by kernel_rfl))
  f314 := Tryz.func283.trans (congrArg some (by kernel_rfl))
  t0 := Tryz.underlying0
  a0 := Tryz.isAgg0
  z0 := Tryz.sizeOf0
  v0 := Tryz.zeroValue0
  t3 := Tryz.underlying3
  a3 := Tryz.isAgg3
  z3 := Tryz.sizeOf3
  v3 := Tryz.zeroValue3
  t4 := Tryz.underlying4
  a4 := Tryz.isAgg4
  z4 := Tryz.sizeOf4
  v4 := Tryz.zeroValue4
  t5 := Tryz.underlying5
  a5 := Tryz.isAgg5
  z5 := Tryz.sizeOf5
  v5 := Tryz.zeroValue5
  t9 := Tryz.underlying9
  a9 := Tryz.isAgg9
  z9 := Tryz.sizeOf9
  v9 := Tryz.zeroValue9
  t21 := Tryz.underlying21
  a21 := Tryz.isAgg21
  z21 := Tryz.sizeOf21
  v21 := Tryz.zeroValue21
  t31 := Tryz.underlying26
  a31 := Tryz.isAgg26
  z31 := Tryz.sizeOf26
  v31 := Tryz.zeroValue26
  t46 := Tryz.underlying387
  a46 := Tryz.isAgg387
  z46 := Tryz.sizeOf387
  v46 := Tryz.zeroValue387
  t51 := Tryz.underlying340
  a51 := Tryz.isAgg340
  z51 := Tryz.sizeOf340
  v51 := Tryz.zeroValue340
  t105 := Tryz.underlying374
  a105 := Tryz.isAgg374
  z105 := Tryz.sizeOf374
  v105 := Tryz.zeroValue374
  t119 := Tryz.underlying299
  a119 := Tryz.isAgg299
  z119 := Tryz.sizeOf299
  t138 := Tryz.underlying407
  a138 := Tryz.isAgg407
  z138 := Tryz.sizeOf407
  v138 := Tryz.zeroValue407
  t139 := Tryz.underlying408
  a139 := Tryz.isAgg408
  z139 := Tryz.sizeOf408
  v139 := Tryz.zeroValue408
  t146 := Tryz.underlying409
  a146 := Tryz.isAgg409
  z146 := Tryz.sizeOf409
  v146 := Tryz.zeroValue409
  g1 := by kernel_rfl
  g3 := by kernel_rfl
  g4 := by kernel_rfl }
def Tryz.lays157_ren : Go.Shelf.Ren := ⟨fun | 157 => 133 | 229 => 179 | 199 => 180 | 261 => 212 | 311 => 243 | 312 => 244 | n => n, fun | 9 => 9 | 31 => 26 | 3 => 3 | 5 => 5 | 4 => 4 | 119 => 299 | 0 => 0 | 40 => 301 | 152 => 337 | 21 => 21 | 154 => 339 | 51 => 340 | 141 => 342 | 196 => 365 | 193 => 362 | 198 => 368 | 49 => 366 | 194 => 363 | 201 => 371 | 226 => 386 | 46 => 387 | 227 => 388 | n => n, fun | 0 => 0 | 6 => 1 | n => n⟩
theorem Tryz.lays157 : Go.Proofs.Lays.n157 Tryz.prog Tryz.lays157_ren := {
  mixed := by kernel_rfl
  f157 := Tryz.func133.trans (congrArg some (by kernel_rfl))
  f199 := Tryz.func180.trans (congrArg some (by kernel_rfl))
  f229 := Tryz.func179.trans (congrArg some (by kernel_rfl))
  f261 := Tryz.func212.trans (congrArg some (by kernel_rfl))
  f311 := Tryz.func243.trans (congrArg some (by kernel_rfl))
  f312 := Tryz.func244.trans (congrArg some (by kernel_rfl))
  t0 := Tryz.underlying0
  a0 := Tryz.isAgg0
  z0 := Tryz.sizeOf0
  v0 := Tryz.zeroValue0
  t3 := Tryz.underlying3
  a3 := Tryz.isAgg3
  z3 := Tryz.sizeOf3
  v3 := Tryz.zeroValue3
  t4 := Tryz.underlying4
  a4 := Tryz.isAgg4
  z4 := Tryz.sizeOf4
  v4 := Tryz.zeroValue4
  t5 := Tryz.underlying5
  a5 := Tryz.isAgg5
  z5 := Tryz.sizeOf5
  v5 := Tryz.zeroValue5
  t9 := Tryz.underlying9
  a9 := Tryz.isAgg9
  z9 := Tryz.sizeOf9
  v9 := Tryz.zeroValue9
  t21 := Tryz.underlying21
  a21 := Tryz.isAgg21
  z21 := Tryz.sizeOf21
  v21 := Tryz.zeroValue21
  t31 := Tryz.underlying26
  a31 := Tryz.isAgg26
  z31 := Tryz.sizeOf26
  v31 := Tryz.zeroValue26
  t40 := Tryz.underlying301
  a40 := Tryz.isAgg301
  z40 := Tryz.sizeOf301
  v40 := Tryz.zeroValue301
  t46 := Tryz.underlying387
  a46 := Tryz.isAgg387
  z46 := Tryz.sizeOf387
  v46 := Tryz.zeroValue387
  t49 := Tryz.underlying366
  a49 := Tryz.isAgg366
  z49 := Tryz.sizeOf366
  v49 := Tryz.zeroValue366
  t51 := Tryz.underlying340
  a51 := Tryz.isAgg340
  z51 := Tryz.sizeOf340
  v51 := Tryz.zeroValue340
  t119 := Tryz.underlying299
  a119 := Tryz.isAgg299
  z119 := Tryz.sizeOf299
  t141 := Tryz.underlying342
  a141 := Tryz.isAgg342
  z141 := Tryz.sizeOf342
  v141 := Tryz.zeroValue342
  t152 := Tryz.underlying337
  a152 := Tryz.isAgg337
  z152 := Tryz.sizeOf337
  v152 := Tryz.zeroValue337
  t154 := Tryz.underlying339
  a154 := Tryz.isAgg339
  z154 := Tryz.sizeOf339
  v154 := Tryz.zeroValue339
  t193 := Tryz.underlying362
  a193 := Tryz.isAgg362
  z193 := Tryz.sizeOf362
  v193 := Tryz.zeroValue362
  t194 := Tryz.underlying363
  a194 := Tryz.isAgg363
  z194 := Tryz.sizeOf363
  v194 := Tryz.zeroValue363
  t196 := Tryz.underlying365
  a196 := Tryz.isAgg365
  z196 := Tryz.sizeOf365
  v196 := Tryz.zeroValue365
  t198 := Tryz.underlying368
  a198 := Tryz.isAgg368
  z198 := Tryz.sizeOf368
  v198 := Tryz.zeroValue368
  t201 := Tryz.underlying371
  a201 := Tryz.isAgg371
  z201 := Tryz.sizeOf371
  v201 := Tryz.zeroValue371
  t226 := Tryz.underlying386
  a226 := Tryz.isAgg386
  z226 := Tryz.sizeOf386
  v226 := Tryz.zeroValue386
  t227 := Tryz.underlying388
  a227 := Tryz.isAgg388
  z227 := Tryz.sizeOf388
  v227 := Tryz.zeroValue388
  g0 := by kernel_rfl
  g6 := by kernel_rfl }
open Go.RowKit Go.Lib in
theorem Tryz.strings_Fields (s : ByteArray) (w : World) (hs : s.size < 4294967281) (hascii : ∀ (j : Nat) b, s.data.toList[j]? = some b → b.toNat < 128) (htab : Lib.TabIs Tryz.prog w "strings.asciiSpace" .u8 Lib.asciiSpaceTab) :
    Calls Tryz.prog 133 #[.string s] w fun e w' =>
      e = .returned (.slice (some ⟨w.heap.size, 0, none⟩) (Lib.fields s.data.toList).length (Lib.fields s.data.toList).length) ∧ w' = w.alloc (.cells ((Lib.fields s.data.toList).map fun l => Value.string ⟨l.toArray⟩).toArray 9) := Any.strings_Fields Tryz.lays157 (by kernel_rfl) (by kernel_rfl) s w hs hascii htab
open Go.RowKit Go.Lib in
theorem Tryz.strings_Split_chars (s sep : ByteArray) (w : World) (h0 : sep.size = 0) (hs : s.size < 4294967281) (hascii : ∀ (j : Nat) b, s.data.toList[j]? = some b → b.toNat < 128) :
    Calls Tryz.prog 136 #[.string s, .string sep] w fun e w' =>
      e = .returned (.slice (some ⟨(w.iter s s.size).heap.size, 0, none⟩) s.size s.size) ∧ w' = (w.iter s s.size).alloc (.cells ((Lib.charsB s).map Value.string).toArray 9) := Any.strings_Split_chars Tryz.lays146 (by kernel_rfl) s sep w h0 hs hascii
def Tryz.laysNm216_ren : Go.Shelf.Ren := ⟨fun | 16 => 19 | n => n, fun | 24 => 26 | 9 => 9 | 4 => 4 | n => n, fun | n => n⟩
theorem Tryz.laysNm216 : Go.Proofs.Lays2.n16 Tryz.prog Tryz.laysNm216_ren := {
  mixed := by kernel_rfl
  f16 := Tryz.func19.trans (congrArg some (by kernel_rfl))
  t4 := Tryz.underlying4
  a4 := Tryz.isAgg4
  z4 := Tryz.sizeOf4
  v4 := Tryz.zeroValue4
  t9 := Tryz.underlying9
  a9 := Tryz.isAgg9
  z9 := Tryz.sizeOf9
  v9 := Tryz.zeroValue9
  t24 := Tryz.underlying26
  a24 := Tryz.isAgg26
  z24 := Tryz.sizeOf26
  v24 := Tryz.zeroValue26
  i9 := by kernel_rfl }
open Go.RowKit Go.Lib in
theorem Tryz.slices_Clone_string_nil (n c : Nat) (w : World) :
    Calls Tryz.prog 19 #[.slice none n c] w fun e w' => e = .returned (.slice none 0 0) ∧ w' = w := Any.slices_Clone_string_nil Tryz.laysNm216 n c w
open Go.RowKit Go.Lib in
theorem Tryz.slices_Clone_string_zero (a : Addr) (c : Nat) (w : World) :
    Calls Tryz.prog 19 #[.slice (some a) 0 c] w fun e w' => ∃ v', e = .returned v' ∧ w'.ownsRow w.heap.size 9 1 v' 0 [] ∧ v' ≠ .slice none 0 0 ∧ Below w.heap.size w w' := Any.slices_Clone_string_zero Tryz.laysNm216 a c w
end Go.Proofs
end
section
namespace Go.AM
open Go.RowKit Go.Proofs
set_option linter.unusedVariables false
set_option maxRecDepth 100000

/-- What is asked of the package variables that the library reads. -/
structure Glob (w : World) : Prop where
  tab : Lib.TabIs Tryz.prog w "strings.asciiSpace" .u8 Lib.asciiSpaceTab
  sz : 11 ≤ w.heap.size
theorem var_keep {w W : World} {n : String} {g : Nat} {cs : Array Value} (hg : Tryz.prog.globalNamed n = some g) (hlt : g < 11) (h : w.var? Tryz.prog n = some cs) (hb : ∀ k, k < 11 → W.heap[k]? = w.heap[k]?) : W.var? Tryz.prog n = some cs := by
  unfold World.var? at *
  rw [hg] at h ⊢
  simp only [Option.bind_some] at h ⊢
  rw [hb g hlt]; exact h
theorem Glob.stab {w W : World} (hb : ∀ k, k < 11 → W.heap[k]? = w.heap[k]?) (hos : W.os = w.os) (h : Glob w) : Glob W := by
  obtain ⟨e3, hs⟩ := h
  refine ⟨var_keep (g := 0) (by kernel_rfl) (by decide) e3 hb, ?_⟩
  have h5 := hb 10 (by decide)
  have : w.heap[10]? = some w.heap[10] := Array.getElem?_eq_getElem hs
  rw [this] at h5
  have := (Array.getElem?_eq_some_iff.1 h5).1; omega
noncomputable def CT : Ctx := ⟨Tryz.prog, 11, Glob, fun _ _ h o e => Glob.stab h o e, by kernel_rfl⟩
theorem ctp : CT.P = Tryz.prog := rfl
end Go.AM
end
section
namespace Go.AM
open Go.Proofs Go.Proofs.YthijephffgoieaaGreatDoor
open Go.ChangeShapes Go.WideShapes Go.ChangeAt Go.RowKit
set_option linter.unusedVariables false
set_option linter.unusedSimpArgs false
set_option maxRecDepth 100000
theorem ownK : ownKnob Tryz.prog.godebug = none := by kernel_rfl
theorem laidOut : laidOutB Tryz.prog = true := by kernel_rfl
def laidL : List (String × DataW Unit) := Rows.linkUnresolvedRow.laid
theorem gt0 : Tryz.prog.globalNamed "strings.asciiSpace" = some 0 := by kernel_rfl
theorem gt1 : (Tryz.prog.globals[0]?).map (·.type) = some 299 := by kernel_rfl
theorem gt2 : ∃ e, Tryz.prog.underlying 299 = some (.array 256 e) ∧ Tryz.prog.underlying e = some (.int .u8) ∧ Tryz.prog.cellsOf e = 1 := ⟨5, by kernel_rfl, by kernel_rfl, by kernel_rfl⟩
theorem gt3 : Tryz.prog.cellsOf 299 = 256 := by kernel_rfl
theorem glob_of {W : World} (h : laidMet Tryz.prog laidL W) (hs : 11 ≤ W.heap.size) : Glob W := by
  have h7 : laidMet Tryz.prog (("strings.asciiSpace", Lib.tabData .u8 Lib.asciiSpaceTab) :: [("unicode/utf8.first", Rows.laid_unicode_utf8_first)]) W := h.tail.tail.tail.tail.tail.tail.tail
  obtain ⟨e, e1, e2, e3⟩ := gt2
  exact ⟨Lib.tabIs_of_head gt0 gt1 e1 e2 e3 gt3 h7, hs⟩
theorem size_of {W : World} (h : W.ShapedOpen Tryz.prog) : 11 ≤ W.heap.size := by
  obtain ⟨cs, h1, _⟩ := h.1 10 #[.pointer none] 342 (by decide +kernel) (by kernel_rfl)
  exact (Array.getElem?_eq_some_iff.1 h1).1
theorem plainL : (laidL.all fun x => x.2.handleName?.isNone) = true := by kernel_rfl
theorem door_met (os : Os) (args : Array Value) : laidMetH Tryz.prog laidL ((World.laidAll Tryz.prog os laidL).forCall (fun _ _ => 0) ⟨#[], args, []⟩).memory := by
  rw [MakeChecks.laidMetH_plain _ _ _ plainL]
  exact laidMet_laidAll _ (by kernel_rfl) (by kernel_rfl)
theorem door_os (os : Os) : (World.laidAll Tryz.prog os laidL).os = os := World.laidAll_os _ _ _
theorem door_shape (os : Os) : (World.laidAll Tryz.prog os laidL).Shaped Tryz.prog := World.shaped_of_ZipB (by kernel_rfl) (by kernel_rfl)
theorem env_of {W : World} (hL : laidMetH Tryz.prog laidL W) (hsh : W.ShapedOpen Tryz.prog) : Glob W := by
  have h := hL
  rw [MakeChecks.laidMetH_plain _ _ _ plainL] at h
  exact glob_of h (size_of hsh)
theorem mainT : Tryz.pinned.checked.prog.mainIs = some (true, "8f09e2a18104b96e3dc3a5ce9b1f8d1c95c3700d3b4fb19dd89403212af5934c".toList) := by kernel_rfl
theorem looksT : true = Tryz.pinned.checked.prog.looks [] := by kernel_rfl
/-- A measure of what is read. -/
def bulk (H : Type) : Bulk H where
  B := Rows.uptoBulk
  BA := Rows.uptoBulkAll
  nil := rfl
  cons _ _ := rfl
  str _ := rfl
  int _ _ := rfl
  bool _ := rfl
  none := rfl
  slice _ _ := rfl
  agg _ := rfl
def tyS : List Nat := [3, 9, 22, 25, 26, 27, 28, 30, 56, 57, 59, 61, 63, 73, 75, 87, 88, 89, 91, 136, 138, 179, 181]
theorem tyS1 : tyS.all (plainB Tryz.prog tyS) = true := by kernel_rfl
theorem tyS2 : tyS.all (fun t => match Tryz.prog.underlying t with
    | some (.struct _) => true
    | _ => Tryz.prog.cellsOf t == 1) = true := by kernel_rfl
theorem tyS3 : tyS.all (fun t => match Tryz.prog.underlying t with
    | some (.slice e) => decide (0 < Tryz.prog.bytesOf e)
    | _ => true) = true := by kernel_rfl
end Go.AM
end
section
namespace Go.AM
open Go.Proofs
def fl {P : Program} (t : Nat) : Array Field := match P.underlying t with
  | some (.struct fs) => fs
  | _ => #[]
noncomputable def ot46 : OT Tryz.prog where
  tint := 3
  tstr := 9
  tstrs := 26
  ci := 63
  cis := 25
  rfo := 179
  rf := 181
  rfs := 57
  fmo := 56
  fm := 59
  fms := 88
  aro := 136
  ar := 138
  ars := 89
  ino := 87
  ins := 91
  inss := 73
  bl := 75
  bls := 28
  gl := 61
  gls := 27
  ob := 30
  obs := 22
  fCI := fl (P := Tryz.prog) 63
  fRf := fl (P := Tryz.prog) 181
  fFm := fl (P := Tryz.prog) 59
  fAr := fl (P := Tryz.prog) 138
  fIns := fl (P := Tryz.prog) 91
  fBl := fl (P := Tryz.prog) 75
  fGl := fl (P := Tryz.prog) 61
  fOb := fl (P := Tryz.prog) 30
  hint := by kernel_rfl
  hstr := by kernel_rfl
  hstrs := by kernel_rfl
  hrfo := by kernel_rfl
  hfmo := by kernel_rfl
  haro := by kernel_rfl
  hino := by kernel_rfl
  hCI := by kernel_rfl
  gCI := by kernel_rfl
  hCIs := by kernel_rfl
  hRf := by kernel_rfl
  gRf := by kernel_rfl
  hRfs := by kernel_rfl
  hFm := by kernel_rfl
  gFm := by kernel_rfl
  hFms := by kernel_rfl
  hAr := by kernel_rfl
  gAr := by kernel_rfl
  hArs := by kernel_rfl
  hIns := by kernel_rfl
  gIns := by kernel_rfl
  hInss := by kernel_rfl
  hBl := by kernel_rfl
  gBl := by kernel_rfl
  hBls := by kernel_rfl
  hGl := by kernel_rfl
  gGl := by kernel_rfl
  hGls := by kernel_rfl
  hOb := by kernel_rfl
  gOb := by kernel_rfl
  hObs := by kernel_rfl
end Go.AM
end
section
namespace Go.AM
open Go.RowKit
set_option linter.unusedVariables false
set_option linter.unusedSimpArgs false
abbrev byte (c : UInt8) : D := .v (.int .u8 c.toNat)
theorem ge_nat (a b : Nat) : decide ((a : Int) ≥ (b : Int)) = decide (b ≤ a) := by rw [decide_eq_decide]; omega
theorem le_nat (a b : Nat) : decide ((a : Int) ≤ (b : Int)) = decide (a ≤ b) := by rw [decide_eq_decide]; omega
theorem gt_nat (a b : Nat) : decide ((a : Int) > (b : Int)) = decide (b < a) := by rw [decide_eq_decide]; omega
theorem lt_nat (a b : Nat) : decide ((a : Int) < (b : Int)) = decide (a < b) := by rw [decide_eq_decide]; omega
theorem eq_nat (a b : Nat) : ((a : Int) == (b : Int)) = decide (a = b) := by rw [Bool.eq_iff_iff]; simp; omega
theorem ne_nat (a b : Nat) : ((a : Int) != (b : Int)) = !decide (a = b) := by rw [bne, eq_nat]
theorem bbeq : (true == true) = true ∧ (true == false) = false ∧ (false == true) = false ∧ (false == false) = true := ⟨rfl, rfl, rfl, rfl⟩
theorem bytes_size (s : Str) : (⟨s.toArray⟩ : ByteArray).size = s.length := by simp [ByteArray.size]
theorem bytes_get (s : Str) (i : Nat) : (⟨s.toArray⟩ : ByteArray)[i]? = s[i]? := by
  by_cases h : i < s.length
  · have h' : i < (⟨s.toArray⟩ : ByteArray).size := by rw [bytes_size]; exact h
    rw [List.getElem?_eq_getElem h, getElem?_pos (⟨s.toArray⟩ : ByteArray) i h']
    rfl
  · have h' : ¬ i < (⟨s.toArray⟩ : ByteArray).size := by rw [bytes_size]; exact h
    rw [List.getElem?_eq_none (by omega), getElem?_neg (⟨s.toArray⟩ : ByteArray) i h']
theorem bytes_list (s : Str) : (⟨s.toArray⟩ : ByteArray).toList = s := by rw [ByteArray.toList_eq]
theorem bytes_nil : (⟨#[]⟩ : ByteArray).toList = [] := by rw [ByteArray.toList_eq]
theorem bytes_ext {a b : ByteArray} (h : a.data.toList = b.data.toList) : a = b := by
  cases a; cases b; congr; exact Array.toList_inj.mp h
theorem bytes_cut (s : Str) (i j : Nat) : (⟨s.toArray⟩ : ByteArray).extract i j = ⟨((s.drop i).take (j - i)).toArray⟩ := by
  apply bytes_ext
  rw [Lib.extract_data]
theorem bytes_app (s t : Str) : (⟨s.toArray⟩ : ByteArray) ++ ⟨t.toArray⟩ = ⟨(s ++ t).toArray⟩ := by
  apply bytes_ext
  simp
theorem nil_beq : (([] : Str) == []) = true := rfl
theorem cons_beq (c : UInt8) (r : Str) : ((c :: r : Str) == []) = false := rfl
theorem strs : (type_of% @nil_beq) ∧ (type_of% @cons_beq) ∧ (type_of% @bytes_size) ∧ (type_of% @bytes_get) ∧ (type_of% @bytes_list) ∧ (type_of% @bytes_nil) ∧ (type_of% @bytes_cut) ∧ (type_of% @bytes_app) ∧ (type_of% @bbeq) := ⟨@nil_beq, @cons_beq, @bytes_size, @bytes_get, @bytes_list, @bytes_nil, @bytes_cut, @bytes_app, @bbeq⟩

end Go.AM
end
section
namespace Go.AM
open Go.MapKept (bytes_beq)
set_option linter.unusedVariables false
def hasL (l : List Str) (s : Str) : Bool := l.any fun x => x == s
def setE (l : List Str) : List (D × A) := l.map fun s => (str s, .d (bool true))
def addS (l : List Str) (s : Str) : List Str := if hasL l s = true then l else l ++ [s]
theorem str_key (a b : Str) : keyEqD (.one .str) (str a) (str b) = some (a == b) := by
  show some ((⟨a.toArray⟩ : ByteArray) == ⟨b.toArray⟩) = _
  congr 1
  rw [Bool.eq_iff_iff, bytes_beq, beq_iff_eq]
  constructor
  · intro h
    have := congrArg (fun x : ByteArray => x.data.toList) h
    simpa using this
  · rintro rfl; rfl
theorem mfind_no {s : Str} : ∀ {l : List Str} (i : Nat), hasL l s = false → mfind (.one .str) (str s) (setE l) i = some none
  | [], i, h => rfl
  | x :: r, i, h => by
    have h1 : (x == s) = false ∧ hasL r s = false := by
      unfold hasL at h ⊢
      simpa using h
    have e : setE (x :: r) = (str x, .d (bool true)) :: setE r := rfl
    rw [e, mfind, str_key]
    have : (s == x) = false := by
      have := h1.1
      rw [beq_eq_false_iff_ne] at this ⊢
      exact fun e => this e.symm
    rw [this]
    exact mfind_no (i + 1) h1.2
theorem mfind_yes {s : Str} : ∀ {l : List Str} (i : Nat), hasL l s = true → ∃ j, mfind (.one .str) (str s) (setE l) i = some (some (i + j, .d (bool true))) ∧ (setE l).set j (str s, .d (bool true)) = setE l
  | [], i, h => by cases h
  | x :: r, i, h => by
    have e : setE (x :: r) = (str x, .d (bool true)) :: setE r := rfl
    rw [e]
    cases hx : (s == x)
    · have h1 : hasL r s = true := by
        have hne : (x == s) = false := by
          rw [beq_eq_false_iff_ne] at hx ⊢
          exact fun e => hx e.symm
        unfold hasL at h ⊢
        rw [List.any_cons, hne, Bool.false_or] at h
        exact h
      obtain ⟨j, g1, g2⟩ := mfind_yes (i + 1) h1
      refine ⟨j + 1, ?_, ?_⟩
      · rw [mfind, str_key, hx]
        dsimp only
        rw [g1, Nat.add_assoc, Nat.add_comm 1 j]
      · rw [List.set_cons_succ, g2]
    · have e2 : s = x := by simpa using hx
      subst e2
      refine ⟨0, ?_, rfl⟩
      rw [mfind, str_key, hx]
      rfl
theorem setE_snoc (l : List Str) (s : Str) : setE l ++ [(str s, .d (bool true))] = setE (l ++ [s]) := by simp [setE]
end Go.AM
end
