/-
 DERIVED: THE SHELF's CONTRACTS AT THIS DUMP, IN PLAIN WORDS (tools/lay-plain.mjs out of 'TryzShelf.lean', which tools/lay-shelf.mjs wrote): THE SAME DECLARATIONS UNDER THE SAME NAMES: 'import', 'namespace', 'open', 'def', 'theorem' AND NOTHING ELSE: no command of the shelf's: FOR A HAND-IN. Each laying: the table of numbers ('.._ren') and one theorem, a field a fact of the dump's own or the kernel's comparison; each contract: ONE APPLICATION.
-/
import Derived.Shelf.Strings.Search1
import Derived.Shelf.Strings.Search2
import Derived.Shelf.Strings.Search3
import Derived.Shelf.LaysM
import Derived.Shelf.Strings.Shaped
import Derived.Shelf.Strings.Prefix
import Derived.Test.YtiimoclbmaggjaaGreatDoorProg
import Derived.Shelf.Sort.Plain
import Derived.Shelf.Slices.In.SortNone
namespace Go.Proofs
open Go.Shelf
open Go.RowKit Go.Lib in
open Go.RowKit Go.Lib in
open Go.RowKit Go.Lib in
open Go.RowKit Go.Lib in
open Go.RowKit Go.Lib in
open Go.RowKit Go.Lib in
open Go.RowKit Go.Lib in
open Go.RowKit Go.Lib in
open Go.Proofs.Tryz
def Tryz.lays144_ren:Go.Shelf.Ren:=⟨fun | 144=>295 | 143=>305 | 219=>307 | 217=>308 | 225=>309 | 224=>310 | 267=>311 | 266=>312 | 314=>313 | n=>n,fun | 9=>9 | 4=>4 | 3=>3 | 5=>5 | 46=>265 | 146=>296 | 51=>277 | n=>n,fun | 1=>1 | n=>n⟩
theorem Tryz.lays144:Go.Proofs.Lays.n144 prog Tryz.lays144_ren:={
 mixed:=by kernel_rfl
 f143:=func305.trans (congrArg some (by kernel_rfl))
 f144:=func295.trans (congrArg some (by kernel_rfl))
 f217:=func308.trans (congrArg some (by kernel_rfl))
 f219:=func307.trans (congrArg some (by kernel_rfl))
 f224:=func310.trans (congrArg some (by kernel_rfl))
 f225:=func309.trans (congrArg some (by kernel_rfl))
 f266:=func312.trans (congrArg some (by kernel_rfl))
 f267:=func311.trans (congrArg some (by kernel_rfl))
 f314:=func313.trans (congrArg some (by kernel_rfl))
 t3:=underlying3
 a3:=Tryz.isAgg3
 z3:=Tryz.sizeOf3
 v3:=Tryz.zeroValue3
 t4:=underlying4
 a4:=Tryz.isAgg4
 z4:=Tryz.sizeOf4
 v4:=Tryz.zeroValue4
 t5:=underlying5
 a5:=Tryz.isAgg5
 z5:=Tryz.sizeOf5
 v5:=Tryz.zeroValue5
 t9:=underlying9
 a9:=Tryz.isAgg9
 z9:=Tryz.sizeOf9
 v9:=Tryz.zeroValue9
 t46:=underlying265
 a46:=Tryz.isAgg265
 z46:=Tryz.sizeOf265
 v46:=Tryz.zeroValue265
 t51:=underlying277
 a51:=Tryz.isAgg277
 z51:=Tryz.sizeOf277
 v51:=Tryz.zeroValue277
 t146:=underlying296
 a146:=Tryz.isAgg296
 z146:=Tryz.sizeOf296
 v146:=Tryz.zeroValue296
 g1:=by kernel_rfl }
open Go.RowKit Go.Lib in
open Go.RowKit Go.Lib in
theorem Tryz.strings_Contains (s sub:ByteArray) (m:Int) (w:World) (hs:s.size<4294967281) (hm:w.cell? ⟨1,0,none⟩=some (.int .i64 m)) :
   Calls prog 295 #[.string s,.string sub] w fun e w'=>e=.returned (.bool (Lib.contains s.data.toList sub.data.toList))/\w'=w:=Any.strings_Contains Tryz.lays144 s sub m w hs hm
open Go.RowKit Go.Lib in
open Go.RowKit Go.Lib in
open Go.RowKit Go.Lib in
open Go.RowKit Go.Lib in
def Tryz.lays99_ren:Go.Shelf.Ren:=⟨fun | 99=>290 | 206=>304 | n=>n,fun | 9=>9 | 4=>4 | 3=>3 | n=>n,fun | n=>n⟩
theorem Tryz.lays99:Go.Proofs.Lays.n99 prog Tryz.lays99_ren:={
 mixed:=by kernel_rfl
 f99:=func290.trans (congrArg some (by kernel_rfl))
 f206:=func304.trans (congrArg some (by kernel_rfl))
 t3:=underlying3
 a3:=Tryz.isAgg3
 z3:=Tryz.sizeOf3
 v3:=Tryz.zeroValue3
 t4:=underlying4
 a4:=Tryz.isAgg4
 z4:=Tryz.sizeOf4
 v4:=Tryz.zeroValue4
 t9:=underlying9
 a9:=Tryz.isAgg9
 z9:=Tryz.sizeOf9
 v9:=Tryz.zeroValue9 }
open Go.RowKit Go.Lib in
theorem Tryz.strings_HasPrefix (s p:ByteArray) (w:World) :
   Calls prog 290 #[.string s,.string p] w fun e w'=>e=.returned (.bool (Lib.hasPrefix s.data.toList p.data.toList))/\w'=w:=Any.strings_HasPrefix Tryz.lays99 s p w
end Go.Proofs


namespace Go.Proofs
open Go.Shelf Go.Sort Go.RowKit Go.Lib
open Go.Proofs.Tryz
def Tryz.lays189_ren:Go.Shelf.Ren:=⟨fun | 189=>228 | 125=>268 | 257=>267 | 128=>285 | 129=>286 | 294=>276 | 295=>277 | 296=>278 | 297=>279 | 298=>280 | 299=>281 | 216=>282 | 300=>283 | 301=>284 | 328=>298 | 329=>299 | 330=>300 | 331=>301 | 332=>302 | 215=>303 | 343=>306 | n=>n,fun | 28=>31 | 3=>3 | 46=>265 | 0=>0 | 51=>277 | 53=>279 | 4=>4 | 183=>271 | 182=>270 | 131=>207 | 5=>5 | 9=>9 | 218=>285 | 222=>289 | 228=>292 | 229=>293 | n=>n,fun | n=>n⟩
theorem Tryz.lays189:Go.Proofs.Lays.n189 prog Tryz.lays189_ren:={
 mixed:=by kernel_rfl
 f125:=func268.trans (congrArg some (by kernel_rfl))
 f128:=func285.trans (congrArg some (by kernel_rfl))
 f129:=func286.trans (congrArg some (by kernel_rfl))
 f189:=func228.trans (congrArg some (by kernel_rfl))
 f215:=func303.trans (congrArg some (by kernel_rfl))
 f216:=func282.trans (congrArg some (by kernel_rfl))
 f257:=func267.trans (congrArg some (by kernel_rfl))
 f294:=func276.trans (congrArg some (by kernel_rfl))
 f295:=func277.trans (congrArg some (by kernel_rfl))
 f296:=func278.trans (congrArg some (by kernel_rfl))
 f297:=func279.trans (congrArg some (by kernel_rfl))
 f298:=func280.trans (congrArg some (by kernel_rfl))
 f299:=func281.trans (congrArg some (by kernel_rfl))
 f300:=func283.trans (congrArg some (by kernel_rfl))
 f301:=func284.trans (congrArg some (by kernel_rfl))
 f328:=func298.trans (congrArg some (by kernel_rfl))
 f329:=func299.trans (congrArg some (by kernel_rfl))
 f330:=func300.trans (congrArg some (by kernel_rfl))
 f331:=func301.trans (congrArg some (by kernel_rfl))
 f332:=func302.trans (congrArg some (by kernel_rfl))
 f343:=func306.trans (congrArg some (by kernel_rfl))
 t0:=underlying0
 a0:=Tryz.isAgg0
 z0:=Tryz.sizeOf0
 v0:=Tryz.zeroValue0
 t3:=underlying3
 a3:=Tryz.isAgg3
 z3:=Tryz.sizeOf3
 v3:=Tryz.zeroValue3
 t4:=underlying4
 a4:=Tryz.isAgg4
 z4:=Tryz.sizeOf4
 v4:=Tryz.zeroValue4
 t5:=underlying5
 a5:=Tryz.isAgg5
 z5:=Tryz.sizeOf5
 v5:=Tryz.zeroValue5
 t9:=underlying9
 a9:=Tryz.isAgg9
 z9:=Tryz.sizeOf9
 v9:=Tryz.zeroValue9
 t28:=underlying31
 a28:=Tryz.isAgg31
 z28:=Tryz.sizeOf31
 v28:=Tryz.zeroValue31
 t46:=underlying265
 a46:=Tryz.isAgg265
 z46:=Tryz.sizeOf265
 v46:=Tryz.zeroValue265
 t51:=underlying277
 a51:=Tryz.isAgg277
 z51:=Tryz.sizeOf277
 v51:=Tryz.zeroValue277
 t53:=underlying279
 a53:=Tryz.isAgg279
 z53:=Tryz.sizeOf279
 v53:=Tryz.zeroValue279
 t131:=underlying207
 a131:=Tryz.isAgg207
 z131:=Tryz.sizeOf207
 v131:=Tryz.zeroValue207
 t182:=underlying270
 a182:=Tryz.isAgg270
 z182:=Tryz.sizeOf270
 v182:=Tryz.zeroValue270
 t183:=underlying271
 a183:=Tryz.isAgg271
 z183:=Tryz.sizeOf271
 v183:=Tryz.zeroValue271
 t218:=underlying285
 a218:=Tryz.isAgg285
 z218:=Tryz.sizeOf285
 v218:=Tryz.zeroValue285
 t222:=underlying289
 a222:=Tryz.isAgg289
 z222:=Tryz.sizeOf289
 v222:=Tryz.zeroValue289
 t228:=underlying292
 a228:=Tryz.isAgg292
 z228:=Tryz.sizeOf292
 v228:=Tryz.zeroValue292
 t229:=underlying293
 a229:=Tryz.isAgg293
 z229:=Tryz.sizeOf293
 v229:=Tryz.zeroValue293 }
theorem Tryz.slices_Sort_int (blk off cap:Nat) (zs:List Int) (w:World) (hH:Holds (Value.int .i64) w blk off zs.toArray) (hblk:blk<w.heap.size) (hsz:zs.length<4611686018427387904) :
   Calls prog 228 #[.slice (some ⟨blk,off,none⟩) zs.length cap] w fun e w' =>
     e=.returned (.tuple #[])/\∃ n os,w'=grow (putRow (Value.int .i64) (Sort.ahead w n) blk off (zs.mergeSort fun x y=>decide (x<=y)).toArray) os:=Any.slices_Sort_int Tryz.lays189 blk off cap zs w hH hblk hsz
theorem Tryz.slices_Sort_int_none (p:Option Addr) (cap:Nat) (w:World) :
   Calls prog 228 #[.slice p 0 cap] w fun e w'=>e=.returned (.tuple #[])/\w'=w:=Any.slices_Sort_int_none Tryz.lays189 p cap w
end Go.Proofs
