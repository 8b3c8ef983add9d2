/- Lemmas, as stated. -/
import Derived.Shelf.Strings.Builder1
import Derived.Shelf.Small.Bits
import Derived.Shelf.Small.Strs
import Derived.Shelf.Strings.BuilderF
import Derived.Shelf.Strings.BuilderK
import Derived.Shelf.Strconv.Itoa0
import Derived.Shelf.Strings.Search1
import Derived.Shelf.Sort.Plain
import Derived.Shelf.Strings.BuilderCap
import Derived.Shelf.Slices.Turned
import Derived.Shelf.Slices.Equal
import Derived.Ground.Names2Prog
import Derived.Shelf.Slices.Clone
import Derived.Shelf.Slices.CompactS
import Derived.Shelf.Slices.Cells
import Derived.Shelf.Slices.In.SortNone
import Derived.Shelf.Slices.Empties2
import Derived.Shelf.Bytes.SlSearch0
import Derived.Ground.SlbCloneProg
import Derived.Shelf.Bytes.SlClone
import Derived.Shelf.Bytes.SlSmallAll
import Derived.Shelf.Bytes.SlEqualAll
import Derived.Shelf.Bytes.Small
import Derived.Test.YtcjmjaefcjcomaaGreatProg
import Derived.Deep.RegionHeld3
import Derived.Laws.Pointers
import Derived.StillTactics
import Derived.Lib.Builder
import Derived.Lib.UnsafeStr
import Derived.Laws.Externs
import Derived.Test.YtcjmjaefcjcomaaGreatQB00
set_option linter.unusedVariables false
set_option linter.unusedSimpArgs false
set_option maxRecDepth 20000
open Go.Proofs.Tryz
open Go.Proofs.Tryz renaming prog->zZZ
open Go.Value renaming slice->aA,int->aB,string->aD
open Option renaming none->aF,some->aG
open Go.IntKind renaming i64->aC
namespace Go.Proofs
open Go.Shelf
def Tryz.lays169_ren:Go.Shelf.Ren:=⟨fun | 169=>44 | n=>n,fun | 70=>103 | 9=>9 | 0=>0 | 72=>105 | 37=>25 | 127=>126 | 3=>3 | 5=>5 | n=>n,fun | n=>n⟩
theorem Tryz.lays169:Go.Proofs.Lays.n169 zZZ Tryz.lays169_ren:= {
 mixed:=by kernel_rfl
 f169:=Tryz.func44.trans (congrArg aG (by kernel_rfl))
 t0:=Tryz.underlying0
 a0:=Tryz.isAgg0
 z0:=Tryz.sizeOf0
 v0:=Tryz.zeroValue0
 t3:=Tryz.underlying3
 a3:=Tryz.isAgg3
 z3:=Tryz.sizeOf3
 v3:=Tryz.zeroValue3
 t9:=Tryz.underlying9
 a9:=Tryz.isAgg9
 z9:=Tryz.sizeOf9
 v9:=Tryz.zeroValue9
 t37:=Tryz.underlying25
 a37:=Tryz.isAgg25
 z37:=Tryz.sizeOf25
 v37:=Tryz.zeroValue25
 t70:=Tryz.underlying103
 a70:=Tryz.isAgg103
 z70:=Tryz.sizeOf103
 v70:=Tryz.zeroValue103
 t72:=Tryz.underlying105
 a72:=Tryz.isAgg105
 z72:=Tryz.sizeOf105
 v72:=Tryz.zeroValue105
 t127:=Tryz.underlying126
 a127:=Tryz.isAgg126
 z127:=Tryz.sizeOf126
 v127:=Tryz.zeroValue126 }
theorem Tryz.Builder_Extra_169:Builder.Extra zZZ Tryz.lays169_ren:= {
 sizeBuilder:=by kernel_rfl
 liesBuilder:=by kernel_rfl
 t5:=Tryz.underlying5
 a5:=Tryz.isAgg5
 z5:=Tryz.sizeOf5
 v5:=Tryz.zeroValue5
 infoByte:=by kernel_rfl
 cellsByte:=by kernel_rfl
 sizeByte:=by kernel_rfl
 neB5:=by decide }
open Go.RowKit in
theorem Tryz.Builder_String_any (B b:Nat) (l:List UInt8) (w:World) (h:Lib.IsBuilder 105 5 B b (Lib.byteCells l) w) (hBw:B<=w.heap.size) :
  Calls zZZ 44 #[.pointer (aG ⟨b,0,aF⟩)] w fun e w'=>e= .returned (aD ⟨l.toArray⟩)/\Below B w w':=Any.Builder_String_any Tryz.lays169 Tryz.Builder_Extra_169 B b l w h hBw
def Tryz.lays106_ren:Go.Shelf.Ren:=⟨fun | 106=>157 | 213=>177 | 265=>192 | n=>n,fun | 9=>9 | 3=>3 | n=>n,fun | n=>n⟩
theorem Tryz.lays106:Go.Proofs.Lays.n106 zZZ Tryz.lays106_ren:= {
 mixed:=by kernel_rfl
 f106:=Tryz.func157.trans (congrArg aG (by kernel_rfl))
 f213:=Tryz.func177.trans (congrArg aG (by kernel_rfl))
 f265:=Tryz.func192.trans (congrArg aG (by kernel_rfl))
 t3:=Tryz.underlying3
 a3:=Tryz.isAgg3
 z3:=Tryz.sizeOf3
 v3:=Tryz.zeroValue3
 t9:=Tryz.underlying9
 a9:=Tryz.isAgg9
 z9:=Tryz.sizeOf9
 v9:=Tryz.zeroValue9 }
open Go.RowKit in
theorem Tryz.strings_Compare (a b:ByteArray) (w:World) :
  Calls zZZ 157 #[aD a,aD b] w fun e w'=>e= .returned (aB .i64 (Lib.compareBytes a.data.toList b.data.toList))/\w'=w:=Any.strings_Compare Tryz.lays106 a b w
def Tryz.lays137_ren:Go.Shelf.Ren:=⟨fun | 137=>41 | 217=>59 | 266=>79 | n=>n,fun | 9=>9 | 5=>5 | 3=>3 | n=>n,fun | n=>n⟩
theorem Tryz.lays137:Go.Proofs.Lays.n137 zZZ Tryz.lays137_ren:= {
 mixed:=by kernel_rfl
 f137:=Tryz.func41.trans (congrArg aG (by kernel_rfl))
 f217:=Tryz.func59.trans (congrArg aG (by kernel_rfl))
 f266:=Tryz.func79.trans (congrArg aG (by kernel_rfl))
 t3:=Tryz.underlying3
 a3:=Tryz.isAgg3
 z3:=Tryz.sizeOf3
 v3:=Tryz.zeroValue3
 t5:=Tryz.underlying5
 a5:=Tryz.isAgg5
 z5:=Tryz.sizeOf5
 v5:=Tryz.zeroValue5
 t9:=Tryz.underlying9
 a9:=Tryz.isAgg9
 z9:=Tryz.sizeOf9
 v9:=Tryz.zeroValue9 }
open Go.RowKit in
theorem Tryz.strings_IndexByte (s:ByteArray) (c:Int) (w:World) :
  Calls zZZ 41 #[aD s,aB .u8 c] w fun e w'=>e= .returned (aB .i64 (Lib.indexByte s.data.toList c.toNat.toUInt8))/\w'=w:=Any.strings_IndexByte Tryz.lays137 s c w
def Tryz.lays190_ren:Go.Shelf.Ren:=⟨fun | 190=>160 | 125=>181 | 258=>180 | 128=>203 | 129=>204 | 302=>194 | 303=>195 | 304=>196 | 305=>197 | 306=>198 | 307=>199 | 308=>200 | 309=>201 | 310=>202 | 333=>209 | 329=>210 | 330=>211 | 334=>212 | 335=>213 | 336=>214 | 344=>216 | n=>n,fun | 31=>39 | 9=>9 | 3=>3 | 46=>124 | 0=>0 | 51=>94 | 53=>93 | 4=>4 | 183=>269 | 182=>268 | 131=>236 | 5=>5 | 218=>280 | 222=>284 | 228=>286 | 229=>287 | n=>n,fun | n=>n⟩
theorem Tryz.lays190:Go.Proofs.Lays.n190 zZZ Tryz.lays190_ren:= {
 mixed:=by kernel_rfl
 f125:=Tryz.func181.trans (congrArg aG (by kernel_rfl))
 f128:=Tryz.func203.trans (congrArg aG (by kernel_rfl))
 f129:=Tryz.func204.trans (congrArg aG (by kernel_rfl))
 f190:=Tryz.func160.trans (congrArg aG (by kernel_rfl))
 f258:=Tryz.func180.trans (congrArg aG (by kernel_rfl))
 f302:=Tryz.func194.trans (congrArg aG (by kernel_rfl))
 f303:=Tryz.func195.trans (congrArg aG (by kernel_rfl))
 f304:=Tryz.func196.trans (congrArg aG (by kernel_rfl))
 f305:=Tryz.func197.trans (congrArg aG (by kernel_rfl))
 f306:=Tryz.func198.trans (congrArg aG (by kernel_rfl))
 f307:=Tryz.func199.trans (congrArg aG (by kernel_rfl))
 f308:=Tryz.func200.trans (congrArg aG (by kernel_rfl))
 f309:=Tryz.func201.trans (congrArg aG (by kernel_rfl))
 f310:=Tryz.func202.trans (congrArg aG (by kernel_rfl))
 f329:=Tryz.func210.trans (congrArg aG (by kernel_rfl))
 f330:=Tryz.func211.trans (congrArg aG (by kernel_rfl))
 f333:=Tryz.func209.trans (congrArg aG (by kernel_rfl))
 f334:=Tryz.func212.trans (congrArg aG (by kernel_rfl))
 f335:=Tryz.func213.trans (congrArg aG (by kernel_rfl))
 f336:=Tryz.func214.trans (congrArg aG (by kernel_rfl))
 f344:=Tryz.func216.trans (congrArg aG (by kernel_rfl))
 t0:=Tryz.underlying0
 a0:=Tryz.isAgg0
 z0:=Tryz.sizeOf0
 v0:=Tryz.zeroValue0
 t3:=Tryz.underlying3
 a3:=Tryz.isAgg3
 z3:=Tryz.sizeOf3
 v3:=Tryz.zeroValue3
 t4:=Tryz.underlying4
 a4:=Tryz.isAgg4
 z4:=Tryz.sizeOf4
 v4:=Tryz.zeroValue4
 t5:=Tryz.underlying5
 a5:=Tryz.isAgg5
 z5:=Tryz.sizeOf5
 v5:=Tryz.zeroValue5
 t9:=Tryz.underlying9
 a9:=Tryz.isAgg9
 z9:=Tryz.sizeOf9
 v9:=Tryz.zeroValue9
 t31:=Tryz.underlying39
 a31:=Tryz.isAgg39
 z31:=Tryz.sizeOf39
 v31:=Tryz.zeroValue39
 t46:=Tryz.underlying124
 a46:=Tryz.isAgg124
 z46:=Tryz.sizeOf124
 v46:=Tryz.zeroValue124
 t51:=Tryz.underlying94
 a51:=Tryz.isAgg94
 z51:=Tryz.sizeOf94
 v51:=Tryz.zeroValue94
 t53:=Tryz.underlying93
 a53:=Tryz.isAgg93
 z53:=Tryz.sizeOf93
 v53:=Tryz.zeroValue93
 t131:=Tryz.underlying236
 a131:=Tryz.isAgg236
 z131:=Tryz.sizeOf236
 v131:=Tryz.zeroValue236
 t182:=Tryz.underlying268
 a182:=Tryz.isAgg268
 z182:=Tryz.sizeOf268
 v182:=Tryz.zeroValue268
 t183:=Tryz.underlying269
 a183:=Tryz.isAgg269
 z183:=Tryz.sizeOf269
 v183:=Tryz.zeroValue269
 t218:=Tryz.underlying280
 a218:=Tryz.isAgg280
 z218:=Tryz.sizeOf280
 v218:=Tryz.zeroValue280
 t222:=Tryz.underlying284
 a222:=Tryz.isAgg284
 z222:=Tryz.sizeOf284
 v222:=Tryz.zeroValue284
 t228:=Tryz.underlying286
 a228:=Tryz.isAgg286
 z228:=Tryz.sizeOf286
 v228:=Tryz.zeroValue286
 t229:=Tryz.underlying287
 a229:=Tryz.isAgg287
 z229:=Tryz.sizeOf287
 v229:=Tryz.zeroValue287 }
open Go.Sort Go.RowKit in
theorem Tryz.slices_Sort_string (blk off cap:Nat) (ss:List (List UInt8)) (w:World) (hH:Holds encStr w blk off ss.toArray) (hblk:blk<w.heap.size) (hsz:ss.length<4611686018427387904) :
  Calls zZZ 160 #[aA (aG ⟨blk,off,aF⟩) ss.length cap] w fun e w' =>
   e= .returned (.tuple #[])/\∃n os,w'=grow (putRow encStr (Sort.ahead w n) blk off (ss.mergeSort fun x y=>decide (x<=y)).toArray) os:=Any.slices_Sort_string Tryz.lays190 blk off cap ss w hH hblk hsz
def Tryz.lays107_ren:Go.Shelf.Ren:=⟨fun | 107=>145 | 108=>170 | n=>n,fun | 28=>80 | 3=>3 | 4=>4 | 0=>0 | n=>n,fun | n=>n⟩
theorem Tryz.lays107:Go.Proofs.Lays.n107 zZZ Tryz.lays107_ren:= {
 mixed:=by kernel_rfl
 f107:=Tryz.func145.trans (congrArg aG (by kernel_rfl))
 f108:=Tryz.func170.trans (congrArg aG (by kernel_rfl))
 t0:=Tryz.underlying0
 a0:=Tryz.isAgg0
 z0:=Tryz.sizeOf0
 v0:=Tryz.zeroValue0
 t3:=Tryz.underlying3
 a3:=Tryz.isAgg3
 z3:=Tryz.sizeOf3
 v3:=Tryz.zeroValue3
 t4:=Tryz.underlying4
 a4:=Tryz.isAgg4
 z4:=Tryz.sizeOf4
 v4:=Tryz.zeroValue4
 t28:=Tryz.underlying80
 a28:=Tryz.isAgg80
 z28:=Tryz.sizeOf80
 v28:=Tryz.zeroValue80 }
open Go.Lib in
theorem Tryz.slices_Contains_int (b off n c:Nat) (zs:List Int) (x:Int) (w:World) (hz:n<=zs.length) (hbig:n<=9223372036854775807) (hc:∀j,j<zs.length->w.cell? ⟨b,off+j,aF⟩=aG (aB .i64 (zs.getD j 0))) :
  Calls zZZ 145 #[aA (aG ⟨b,off,aF⟩) n c,aB .i64 x] w fun e w'=>e= .returned (.bool ((zs.take n).contains x))/\w'=w:=Any.slices_Contains_int Tryz.lays107 b off n c zs x w hz hbig hc
open Go.Lib in
theorem Tryz.slices_Contains_int_empty (a:Option Addr) (c:Nat) (x:Int) (w:World) :
  Calls zZZ 145 #[aA a 0 c,aB .i64 x] w fun e w'=>e= .returned (.bool false)/\w'=w:=Any.slices_Contains_int_empty Tryz.lays107 a c x w
def Tryz.lays110_ren:Go.Shelf.Ren:=⟨fun | 110=>152 | 109=>171 | n=>n,fun | 31=>39 | 9=>9 | 4=>4 | 3=>3 | 0=>0 | n=>n,fun | n=>n⟩
theorem Tryz.lays110:Go.Proofs.Lays.n110 zZZ Tryz.lays110_ren:= {
 mixed:=by kernel_rfl
 f109:=Tryz.func171.trans (congrArg aG (by kernel_rfl))
 f110:=Tryz.func152.trans (congrArg aG (by kernel_rfl))
 t0:=Tryz.underlying0
 a0:=Tryz.isAgg0
 z0:=Tryz.sizeOf0
 v0:=Tryz.zeroValue0
 t3:=Tryz.underlying3
 a3:=Tryz.isAgg3
 z3:=Tryz.sizeOf3
 v3:=Tryz.zeroValue3
 t4:=Tryz.underlying4
 a4:=Tryz.isAgg4
 z4:=Tryz.sizeOf4
 v4:=Tryz.zeroValue4
 t9:=Tryz.underlying9
 a9:=Tryz.isAgg9
 z9:=Tryz.sizeOf9
 v9:=Tryz.zeroValue9
 t31:=Tryz.underlying39
 a31:=Tryz.isAgg39
 z31:=Tryz.sizeOf39
 v31:=Tryz.zeroValue39 }
open Go.Lib in
theorem Tryz.slices_Contains_string (b off n c:Nat) (zs:List ByteArray) (x:ByteArray) (w:World) (hz:n<=zs.length) (hbig:n<=9223372036854775807) (hc:∀j,j<zs.length->w.cell? ⟨b,off+j,aF⟩=aG (aD (zs.getD j ByteArray.empty))) :
  Calls zZZ 152 #[aA (aG ⟨b,off,aF⟩) n c,aD x] w fun e w'=>e= .returned (.bool (Lib.containsS (zs.take n) x))/\w'=w:=Any.slices_Contains_string Tryz.lays110 b off n c zs x w hz hbig hc
open Go.Lib in
theorem Tryz.slices_Contains_string_empty (a:Option Addr) (c:Nat) (x:ByteArray) (w:World) :
  Calls zZZ 152 #[aA a 0 c,aD x] w fun e w'=>e= .returned (.bool false)/\w'=w:=Any.slices_Contains_string_empty Tryz.lays110 a c x w
def Tryz.lays111_ren:Go.Shelf.Ren:=⟨fun | 111=>34 | n=>n,fun | 28=>80 | 3=>3 | 4=>4 | 0=>0 | n=>n,fun | n=>n⟩
theorem Tryz.lays111:Go.Proofs.Lays.n111 zZZ Tryz.lays111_ren:= {
 mixed:=by kernel_rfl
 f111:=Tryz.func34.trans (congrArg aG (by kernel_rfl))
 t0:=Tryz.underlying0
 a0:=Tryz.isAgg0
 z0:=Tryz.sizeOf0
 v0:=Tryz.zeroValue0
 t3:=Tryz.underlying3
 a3:=Tryz.isAgg3
 z3:=Tryz.sizeOf3
 v3:=Tryz.zeroValue3
 t4:=Tryz.underlying4
 a4:=Tryz.isAgg4
 z4:=Tryz.sizeOf4
 v4:=Tryz.zeroValue4
 t28:=Tryz.underlying80
 a28:=Tryz.isAgg80
 z28:=Tryz.sizeOf80
 v28:=Tryz.zeroValue80 }
open Go.RowKit Go.Lib in
theorem Tryz.slices_Equal_int (b1 o1 n c b2 o2 m d:Nat) (xs ys:List Int) (w:World) (hx:n<=xs.length) (hy:m<=ys.length) (hbig:n<=9223372036854775807) (hbig2:m<=9223372036854775807) (hc1:∀j,j<xs.length->w.cell? ⟨b1,o1+j,aF⟩=aG (aB .i64 (xs.getD j 0))) (hc2:∀j,j<ys.length->w.cell? ⟨b2,o2+j,aF⟩=aG (aB .i64 (ys.getD j 0))) :
  Calls zZZ 34 #[aA (aG ⟨b1,o1,aF⟩) n c,aA (aG ⟨b2,o2,aF⟩) m d] w fun e w'=>e= .returned (.bool (xs.take n==ys.take m))/\∃q,w'=w.drewN q:=Any.slices_Equal_int Tryz.lays111 b1 o1 n c b2 o2 m d xs ys w hx hy hbig hbig2 hc1 hc2
open Go.RowKit Go.Lib in
theorem Tryz.slices_Equal_int_empty (a1 a2:Option Addr) (c m d:Nat) (w:World) (hbig2:m<=9223372036854775807) :
  Calls zZZ 34 #[aA a1 0 c,aA a2 m d] w fun e w'=>e= .returned (.bool (decide (m=0)))/\w'=w:=Any.slices_Equal_int_empty Tryz.lays111 a1 a2 c m d w hbig2
def Tryz.lays193_ren:Go.Shelf.Ren:=⟨fun | 193=>31 | n=>n,fun | 31=>39 | 9=>9 | 4=>4 | 3=>3 | 0=>0 | n=>n,fun | n=>n⟩
theorem Tryz.lays193:Go.Proofs.Lays.n193 zZZ Tryz.lays193_ren:= {
 mixed:=by kernel_rfl
 f193:=Tryz.func31.trans (congrArg aG (by kernel_rfl))
 t0:=Tryz.underlying0
 a0:=Tryz.isAgg0
 z0:=Tryz.sizeOf0
 v0:=Tryz.zeroValue0
 t3:=Tryz.underlying3
 a3:=Tryz.isAgg3
 z3:=Tryz.sizeOf3
 v3:=Tryz.zeroValue3
 t4:=Tryz.underlying4
 a4:=Tryz.isAgg4
 z4:=Tryz.sizeOf4
 v4:=Tryz.zeroValue4
 t9:=Tryz.underlying9
 a9:=Tryz.isAgg9
 z9:=Tryz.sizeOf9
 v9:=Tryz.zeroValue9
 t31:=Tryz.underlying39
 a31:=Tryz.isAgg39
 z31:=Tryz.sizeOf39
 v31:=Tryz.zeroValue39 }
open Go.RowKit Go.Lib in
theorem Tryz.slices_Equal_string (b1 o1 n c b2 o2 m d:Nat) (xs ys:List ByteArray) (w:World) (hx:n<=xs.length) (hy:m<=ys.length) (hbig:n<=9223372036854775807) (hbig2:m<=9223372036854775807) (hc1:∀j,j<xs.length->w.cell? ⟨b1,o1+j,aF⟩=aG (aD (xs.getD j ByteArray.empty))) (hc2:∀j,j<ys.length->w.cell? ⟨b2,o2+j,aF⟩=aG (aD (ys.getD j ByteArray.empty))) :
  Calls zZZ 31 #[aA (aG ⟨b1,o1,aF⟩) n c,aA (aG ⟨b2,o2,aF⟩) m d] w fun e w'=>e= .returned (.bool (decide (xs.take n=ys.take m)))/\∃q,w'=w.drewN q:=Any.slices_Equal_string Tryz.lays193 b1 o1 n c b2 o2 m d xs ys w hx hy hbig hbig2 hc1 hc2
open Go.RowKit Go.Lib in
theorem Tryz.slices_Equal_string_empty (a1 a2:Option Addr) (c m d:Nat) (w:World) (hbig2:m<=9223372036854775807) :
  Calls zZZ 31 #[aA a1 0 c,aA a2 m d] w fun e w'=>e= .returned (.bool (decide (m=0)))/\w'=w:=Any.slices_Equal_string_empty Tryz.lays193 a1 a2 c m d w hbig2
def Tryz.laysNm216_ren:Go.Shelf.Ren:=⟨fun | 16=>106 | n=>n,fun | 24=>39 | 9=>9 | 4=>4 | n=>n,fun | n=>n⟩
theorem Tryz.laysNm216:Go.Proofs.Lays2.n16 zZZ Tryz.laysNm216_ren:= {
 mixed:=by kernel_rfl
 f16:=Tryz.func106.trans (congrArg aG (by kernel_rfl))
 t4:=Tryz.underlying4
 a4:=Tryz.isAgg4
 z4:=Tryz.sizeOf4
 v4:=Tryz.zeroValue4
 t9:=Tryz.underlying9
 a9:=Tryz.isAgg9
 z9:=Tryz.sizeOf9
 v9:=Tryz.zeroValue9
 t24:=Tryz.underlying39
 a24:=Tryz.isAgg39
 z24:=Tryz.sizeOf39
 v24:=Tryz.zeroValue39
 i9:=by kernel_rfl }
open Go.RowKit Go.Lib in
theorem Tryz.slices_Clone_string (b off n c:Nat) (zs:List ByteArray) (w:World) (hz:n<=zs.length) (hbig:n*16<=140737488355328) (hc:∀j,j<zs.length->w.cell? ⟨b,off+j,aF⟩=aG (aD (zs.getD j ByteArray.empty))) :
  Calls zZZ 106 #[aA (aG ⟨b,off,aF⟩) n c] w fun e w'=>∃v',e= .returned v'/\w'.ownsRow w.heap.size 9 1 v' n ((zs.take n).map (aD))/\v'≠ aA aF 0 0/\Below w.heap.size w w':=Any.slices_Clone_string Tryz.laysNm216 b off n c zs w hz hbig hc
open Go.RowKit Go.Lib in
theorem Tryz.slices_Clone_string_nil (n c:Nat) (w:World) :
  Calls zZZ 106 #[aA aF n c] w fun e w'=>e= .returned (aA aF 0 0)/\w'=w:=Any.slices_Clone_string_nil Tryz.laysNm216 n c w
open Go.RowKit Go.Lib in
theorem Tryz.slices_Clone_string_zero (a:Addr) (c:Nat) (w:World) :
  Calls zZZ 106 #[aA (aG a) 0 c] w fun e w'=>∃v',e= .returned v'/\w'.ownsRow w.heap.size 9 1 v' 0 []/\v'≠ aA aF 0 0/\Below w.heap.size w w':=Any.slices_Clone_string_zero Tryz.laysNm216 a c w
def Tryz.lays194_ren:Go.Shelf.Ren:=⟨fun | 194=>161 | n=>n,fun | 31=>39 | 9=>9 | 3=>3 | 4=>4 | 0=>0 | n=>n,fun | n=>n⟩
theorem Tryz.lays194:Go.Proofs.Lays.n194 zZZ Tryz.lays194_ren:= {
 mixed:=by kernel_rfl
 f194:=Tryz.func161.trans (congrArg aG (by kernel_rfl))
 t0:=Tryz.underlying0
 a0:=Tryz.isAgg0
 z0:=Tryz.sizeOf0
 v0:=Tryz.zeroValue0
 t3:=Tryz.underlying3
 a3:=Tryz.isAgg3
 z3:=Tryz.sizeOf3
 v3:=Tryz.zeroValue3
 t4:=Tryz.underlying4
 a4:=Tryz.isAgg4
 z4:=Tryz.sizeOf4
 v4:=Tryz.zeroValue4
 t9:=Tryz.underlying9
 a9:=Tryz.isAgg9
 z9:=Tryz.sizeOf9
 v9:=Tryz.zeroValue9
 t31:=Tryz.underlying39
 a31:=Tryz.isAgg39
 z31:=Tryz.sizeOf39
 v31:=Tryz.zeroValue39 }
open Go.RowKit Go.Lib Go.Sort in
theorem Tryz.slices_Compact_string (blk off cap:Nat) (zs:List (List UInt8)) (w:World) (hH:Holds encStr w blk off zs.toArray) (hsz:zs.length<=9223372036854775807) (hcap:zs.length<=cap) :
  Calls zZZ 161 #[aA (aG ⟨blk,off,aF⟩) zs.length cap] w fun e w'=>e= .returned (aA (aG ⟨blk,off,aF⟩) (Lib.compact zs).length cap)/\∃q,w'=putRow encStr (Sort.ahead w q) blk off (Lib.compact zs++List.replicate (zs.length - (Lib.compact zs).length) []).toArray:=Any.slices_Compact_string Tryz.lays194 blk off cap zs w hH hsz hcap
open Go.RowKit Go.Lib Go.Sort in
theorem Tryz.slices_Compact_string_empty (a:Option Addr) (cap:Nat) (w:World) :
  Calls zZZ 161 #[aA a 0 cap] w fun e w'=>e= .returned (aA a 0 cap)/\w'=w:=Any.slices_Compact_string_empty Tryz.lays194 a cap w
open Go.RowKit Go.Sort in
theorem Tryz.slices_Sort_string_none (p:Option Addr) (cap:Nat) (w:World) :
  Calls zZZ 160 #[aA p 0 cap] w fun e w'=>e= .returned (.tuple #[])/\w'=w:=Any.slices_Sort_string_none Tryz.lays190 p cap w
open Go.RowKit Go.Lib in
theorem Tryz.slices_Equal_string_lens (a1 a2:Option Addr) (n c m d:Nat) (w:World) (hnm:n≠m) :
  Calls zZZ 31 #[aA a1 n c,aA a2 m d] w fun e w'=>e= .returned (.bool false)/\w'=w:=Any.slices_Equal_string_lens Tryz.lays193 a1 a2 n c m d w hnm
def Tryz.laysnb141_ren:Go.Shelf.Ren:=⟨fun | 141=>45 | 116=>61 | 115=>81 | n=>n,fun | 37=>25 | 4=>4 | 3=>3 | 9=>9 | 5=>5 | n=>n,fun | n=>n⟩
theorem Tryz.laysnb141:Go.Proofs.Lays.nb141 zZZ Tryz.laysnb141_ren:= {
 mixed:=by kernel_rfl
 f115:=Tryz.func81.trans (congrArg aG (by kernel_rfl))
 f116:=Tryz.func61.trans (congrArg aG (by kernel_rfl))
 f141:=Tryz.func45.trans (congrArg aG (by kernel_rfl))
 t3:=Tryz.underlying3
 a3:=Tryz.isAgg3
 z3:=Tryz.sizeOf3
 v3:=Tryz.zeroValue3
 t4:=Tryz.underlying4
 a4:=Tryz.isAgg4
 z4:=Tryz.sizeOf4
 v4:=Tryz.zeroValue4
 t9:=Tryz.underlying9
 a9:=Tryz.isAgg9
 z9:=Tryz.sizeOf9
 v9:=Tryz.zeroValue9
 t37:=Tryz.underlying25
 a37:=Tryz.isAgg25
 z37:=Tryz.sizeOf25
 v37:=Tryz.zeroValue25
 t5:=Tryz.underlying5
 a5:=Tryz.isAgg5
 z5:=Tryz.sizeOf5
 v5:=Tryz.zeroValue5 }
theorem Tryz.bytes_CutPrefix_e1 (p1 p2:Option Addr) (c m d:Nat) (hm:0<m) (w:World) :
  Calls zZZ 45 #[aA p1 0 c,aA p2 m d] w fun e w'=>e= .returned (.tuple #[aA p1 0 c,.bool false])/\w'=w:=Any.bytes_CutPrefix_e1 Tryz.laysnb141 p1 p2 c m d hm w
theorem Tryz.bytes_CutPrefix (b1 o1 n c b2 o2 m d:Nat) (xs ys:List Int) (w:World) (hx:xs.length=n) (hy:ys.length=m) (hnc:n<=c) (hc1:∀i,i<n->w.cell? ⟨b1,o1+i,aF⟩=aG (aB .u8 (xs.getD i 0))) (hc2:∀i,i<m->w.cell? ⟨b2,o2+i,aF⟩=aG (aB .u8 (ys.getD i 0))) :
  Calls zZZ 45 #[aA (aG ⟨b1,o1,aF⟩) n c,aA (aG ⟨b2,o2,aF⟩) m d] w fun e w'=>e= .returned (.tuple #[Lib.bytesTrimPrefix b1 o1 n c xs ys,.bool (Lib.hasPrefix (Lib.bytesOf xs) (Lib.bytesOf ys))])/\w'=w:=Any.bytes_CutPrefix Tryz.laysnb141 b1 o1 n c b2 o2 m d xs ys w hx hy hnc hc1 hc2
end Go.Proofs
namespace Go.Proofs.YtcjmjaefcjcomaaGreat
variable {bytes m n size:Nat} {P:Program} {e it t:TypeId} {w:World} {rest:ai} {A:aj}
def num (n:Nat):ai:=if n<128 then [UInt8.ofNat n] else UInt8.ofNat (n % 128+128)::num (n / 128)
theorem qh (h:n<128):num n= [UInt8.ofNat n]:=by rw [num,if_pos h]
theorem uu (h:¬n<128):num n=UInt8.ofNat (n % 128+128)::num (n / 128):=by rw [num,if_neg h]
theorem xY (n:Nat):∀k,n<128 ^ (k+1)->1<=(num n).length/\(num n).length<=k+1:=by
 intro k
 induction k generalizing n with
 | zero=>intro h;rw [qh (by simpa using h)];simp
 | succ k ih =>
  intro h;by_cases hn:n<128
  ·rw [qh hn];simp
  ·rw [uu hn];have:=ih (n / 128) (by rw [Nat.div_lt_iff_lt_mul wu];simpa [Nat.pow_succ] using h);simp only [List.length_cons];omega
open Go.RowKit
theorem vu:El zZZ 25 5 1 1:=El.mk' (z:= aB .u8 0) underlying25 ww rfl wu wu
theorem z56 (m:Nat) (h:m<128):bits .or .u8 (m:Int) 128=((m+128:Nat):Int):=by
 have:∀m:Nat,m<128->bits .or .u8 (m:Int) 128=((m+128:Nat):Int):=by decide +kernel
 exact this m h
theorem YZ (N:Nat) (w:World) (hN:N<=4294967295):Calls zZZ 19 #[aB aC N] w fun e w'=>∃v,e= .returned (.tuple #[v,aB aC 0]) /\
  w'.ownsRow w.heap.size 5 1 v (num N).length (bys (num N))/\Below w.heap.size w w':=by
 go_enter func19,ntmps19;go_wp2;go_loopw [0,4] (fun n v wr=>∃(k:Nat) (acc:ai),n= aB aC k/\k<=4294967295/\acc.length+(num k).length=(num N).length/\num N=acc++num k/\wr.ownsRow w.heap.size 5 1 v acc.length (bys acc)/\Below w.heap.size w wr) (fun n _ _=>(intOf n).toNat)
 case atStart=>exact⟨N, [],rfl,hN,ab,rfl,World.ownsRow_nil _ _ _ _,Below.refl _ _⟩
 case round =>
  obtain⟨k,acc,rfl,hk,hl,hnum,hown,hbel⟩:=hrel;have HN:=sqH hnum;clear hnum;have HL:=sqH hl;clear hl;have hlen:acc.length<=5:=by have:=(xY N 4 wu).2;have:=HL.o;omega
  have hsz:=hbel.size;by_cases hb:k<128
  ·refine wL ?_;intros
   refine zj rfl (.tmp 22) (.tmp 25) rfl vu ac hown rfl rfl (by simp;rfl) wu hsz ?_;intro v1 w1 hown1 hg1 _;have hb1:=zh hbel hown ag hg1;obtain⟨A1,c1,rfl,hc1,hr1⟩:=Rd.of_own' hown1;refine zG rfl (.const _) (.tmp 26) rfl vu ac (World.ownsRow_nil _ w.heap.size _ _) ac hr1 ?_ wu hb1.size ?_
   ·intro u hu;simp only [List.mem_append,List.mem_singleton]at hu;rcases hu with hu | rfl
    ·exact kC _ u hu
    ·rfl
   intro v2 w2 hown2 hg2 _;have hb2:=zh hb1 (World.ownsRow_nil w1 w.heap.size 5 1) ag hg2
   refine wL ?_;intros;go_ret2;refine⟨_,rfl,?_,hb2⟩;have e1:num N=acc++ [UInt8.ofNat k]:=by rw [HN.o,qh hb]
   have e2:bys (num N)= []++(bys acc++ [aB .u8 k]):=by
    rw [e1,q6];simp only [bys,List.map_cons,List.map_nil,List.nil_append]
    congr 3;simp;omega
   rw [e2,e1];simpa using hown2
  ·refine wL ?_;intros
   refine zj rfl (.tmp 13) (.tmp 18) rfl vu ac hown rfl rfl (by simp;rfl) wu hsz ?_;intro v1 w1 hown1 hg1 _;have hb1:=zh hbel hown ag hg1
   refine wL ?_;intros;have e0:bits .or .u8 ((k:Int) % 128) 128=((k % 128+128:Nat):Int):=by
    rw [show((k:Int) % 128)=((k % 128:Nat):Int) by omega];exact z56 _ (Nat.mod_lt _ wu)
   rw [e0]at hown1;have e1:bys acc++ [aB .u8 ((k % 128+128:Nat):Int)]=bys (acc++ [UInt8.ofNat (k % 128+128)]):=by
    rw [q6];simp only [bys,List.map_cons,List.map_nil];congr 3;simp;omega
   rw [e1]at hown1;have hn:=uu hb;go_roundw
   case rel=>exact⟨k / 128,acc++ [UInt8.ofNat (k % 128+128)],by go_num,wu,by have:=HL.o;rw [hn]at this;simp at this ⊢;omega,by rw [HN.o,hn];simp,by simpa using hown1,hb1⟩
   case measure=>simp [intOf];omega
theorem z1a:El zZZ 96 94 1 4:=El.mk' (z:= aB .u32 0) underlying96 ww rfl wu wu
def wds (l:List (BitVec 32)):ak:=l.map fun b=> aB .u32 (wd b)
theorem x8 (l:List (BitVec 32)) (k:Nat) (h:k<l.length):(wds l)[k]?=aG (aB .u32 (wd l[k])):=by simp [wds,h]
theorem Z8 (l:List (BitVec 32)):∀u∈wds l,u.oneCell'=true:=by
 intro u hu;simp only [wds,List.mem_map]at hu;obtain⟨_,_,rfl⟩:=hu;rfl
def wb (x:BitVec 32):ai:= [UInt8.ofNat (x.toNat / 16777216),UInt8.ofNat (x.toNat / 65536),UInt8.ofNat (x.toNat / 256),UInt8.ofNat x.toNat]
def wbs (l:List (BitVec 32)):ai:=l.flatMap wb
theorem Z7 (l:List (BitVec 32)):(wbs l).length=4*l.length:=by
 induction l with
 | nil=>rfl
 | cons x l ih=>simp only [wbs,List.flatMap_cons,List.length_append,List.length_cons] at *;rw [ih];simp [wb];omega
theorem KG (l:List (BitVec 32)) (k:Nat) (h:k<l.length):wbs (l.take (k+1))=wbs (l.take k)++wb l[k]:=by
 unfold wbs;rw [List.take_succ_eq_append_getElem h,List.flatMap_append,List.flatMap_cons,List.flatMap_nil,List.append_nil]
theorem VN (A:aj) (n c:Nat) (l:List (BitVec 32)) (w:World) (hl:l.length=n) (hn:n<=2000) (hc:n<=c) (hr:Rd w 1 A n (wds l)) :
  Calls zZZ 176 #[aA A n c] w fun e w'=>∃A' c',e= .returned (.tuple #[aA A' (wbs l).length c',aB aC 0])/\OwnB 5 w.heap.size w' A' c' (wbs l)/\Below w.heap.size w w':=by
 go_enter func176,ntmps176
 refine wL ?_;intros;refine ya rfl _ _ rfl vu (4*n) rfl rfl wu wu ?_;intro w1 g1 hown1 hb1;go_wp2_with fail;go_loopw [4,16] (fun v i wr=>∃k:Nat,i= aB aC k/\k<=n/\wr.ownsRow w.heap.size 5 1 v (wbs (l.take k)).length (bys (wbs (l.take k)))/\Below w.heap.size w wr) (fun _ i _=>n - (intOf i).toNat)
 case atStart=>exact⟨0,rfl,wu,hown1,hb1⟩
 case round =>
  obtain⟨k,rfl,hk,hown,hbel⟩:=hrel;have hle:=Z7 (l.take k);rw [List.length_take]at hle;by_cases hlt:k<n
  ·obtain⟨b,off,u,rfl,_,hu,hcell⟩:=(hr.below hbel).at_ hlt;rw [x8 l k wu]at hu;cases hu
   have HS:=sqH (KG l k wu);have hwn:=z2h l[k];have hwl:=z2g l[k];generalize hx:l[k]=x at *
   have HX:=sqH hx;clear hx
   refine wL ?_;intros;refine zj rfl (.tmp 20) (.tmp 32) rfl vu ac hown rfl rfl (by simp;exact⟨rfl,rfl,rfl,rfl⟩) wu hbel.size ?_;intro v2 w2 hown2 hg2 _;have hb2:=zh hbel hown ag hg2;have hx:=x.isLt;have e1:bys (wb x)= [aB .u8 (wd x / (16777216:Int)),aB .u8 (wd x / (65536:Int) % (256:Int)),aB .u8 (wd x / (256:Int) % (256:Int)),aB .u8 (wd x % (256:Int))]:=by
    simp only [bys,wb,wd,List.map_cons,List.map_nil,UInt8.toNat_ofNat'];rw [show x.toNat / 16777216 % 2 ^ 8=x.toNat / 16777216 by omega];rfl
   go_wp2_with fail;rw [<-e1]at hown2;go_roundw
   case rel=>exact⟨k+1,by go_num,wu,by rw [HS.o,q6,List.length_append];exact hown2,hb2⟩
   case measure=>simp [intOf];omega
  ·obtain rfl:k=n:=by omega
   rw [List.take_of_length_le wu]at hown;obtain⟨A1,c1,rfl,hc1,_⟩:=Rd.of_own' hown;go_wp2_with fail;go_ret2;exact⟨A1,c1,rfl,⟨hown,hc1⟩,hbel⟩
def wOf (a b c d:UInt8):BitVec 32:=BitVec.ofNat 32 (a.toNat*16777216+b.toNat*65536+c.toNat*256+d.toNat)
def ku:List UInt8->List (BitVec 32)
 | a::b::c::d::r=>wOf a b c d::ku r
 | _=> []
theorem vO:∀(k:Nat) (l:ai),l.length=4*k->(ku l).length=k
 | 0,l,h=>by obtain rfl:l= []:=List.eq_nil_of_length_eq_zero wu;rfl
 | k+1,a::b::c::d::r,h=>by simp only [ku,List.length_cons] at *;rw [vO k r wu]
 | k+1, [],h=>by simp at h
 | k+1, [_],h=>by simp at h;omega
 | k+1, [_,_],h=>by simp at h;omega
 | k+1, [_,_,_],h=>by simp at h;omega
theorem uE:∀(k:Nat) (l:ai) (h:4*k+3<l.length),ku (l.take (4*(k+1)))=ku (l.take (4*k))++ [wOf l[4*k] l[4*k+1] l[4*k+2] l[4*k+3]]
 | 0,a::b::c::d::r,h=>by simp [ku]
 | k+1,a::b::c::d::r,h=>by
  have h':4*k+3<r.length:=by simp at h;omega
  have e1:(a::b::c::d::r).take (4*(k+1+1))=a::b::c::d::r.take (4*(k+1)):=rfl
  have e2:(a::b::c::d::r).take (4*(k+1))=a::b::c::d::r.take (4*k):=rfl
  rw [e1,e2,ku,ku,uE k r h']
  rfl
 | 0, [],h=>by simp at h
 | 0, [_],h=>by simp at h
 | 0, [_,_],h=>by simp at h
 | 0, [_,_,_],h=>by simp at h
 | k+1, [],h=>by simp at h
 | k+1, [_],h=>by simp at h
 | k+1, [_,_],h=>by simp at h;omega
 | k+1, [_,_,_],h=>by simp at h;omega
theorem uD (n:Int) (h0:0<=n) (h1:n<2 ^ 32):IntKind.u32.wrap n=n:=by
 rw [IntKind.wrap_u32];simp at h1;omega
theorem KE (a b c d:UInt8):bits BinOp.or IntKind.u32 (bits BinOp.or IntKind.u32 (bits BinOp.or IntKind.u32 (IntKind.u32.wrap (IntKind.u32.wrap (a.toNat:Int)*16777216)) (IntKind.u32.wrap (IntKind.u32.wrap (b.toNat:Int)*65536)))
  (IntKind.u32.wrap (IntKind.u32.wrap (c.toNat:Int)*256))) (IntKind.u32.wrap (d.toNat:Int))=wd (wOf a b c d):=by
 have ha:=a.toNat_lt;have hb:=b.toNat_lt;have hc:=c.toNat_lt;have hd:=d.toNat_lt;have hw:wd (wOf a b c d)=((a.toNat*16777216+b.toNat*65536+c.toNat*256+d.toNat:Nat):Int):=by
  simp only [wd,wOf,BitVec.toNat_ofNat];omega
 rw [hw];clear hw;generalize a.toNat=a at *
 generalize b.toNat=b at *
 generalize c.toNat=c at *
 generalize d.toNat=d at *
 have e1:∀x:Nat,x<256->IntKind.u32.wrap (x:Int)=x:=fun x h=>by rw [IntKind.wrap_u32];omega
 rw [e1 a ha,e1 b hb,e1 c hc,e1 d hd];have e2:∀x y:Int,0<=x->x<256->0<=y->y<=16777216->IntKind.u32.wrap (x*y)=x*y:=fun x y h1 h2 h3 h4=>by
  rw [IntKind.wrap_u32];have:=Int.mul_nonneg h1 h3;have h5:x*y<=255*16777216:=Int.mul_le_mul wu h4 h3 wu;omega
 rw [e2 a 16777216 wu wu wu wu,e2 b 65536 wu wu wu wu,e2 c 256 wu wu wu wu];rw [bits_join .u32 32 aa uD 24 ((a:Int)*16777216) ((b:Int)*65536) wu wu wu wu wu wu];rw [bits_join .u32 32 aa uD 16 ((a:Int)*16777216+(b:Int)*65536) ((c:Int)*256) wu wu wu wu wu wu];rw [bits_join .u32 32 aa uD 8 ((a:Int)*16777216+(b:Int)*65536+(c:Int)*256) (d:Int) wu wu wu wu wu wu];omega
theorem Ux (A:aj) (n c:Nat) (l:ai) (w:World) (hl:l.length=n) (hn:n<=2072) (h4:n % 4=0) (hc:n<=c) (hr:Rd w 1 A n (bys l)) :
  Calls zZZ 173 #[aA A n c] w fun e w'=>∃v,e= .returned (.tuple #[v,aB aC 0])/\w'.ownsRow w.heap.size 94 1 v (n / 4) (wds (ku l))/\Below w.heap.size w w':=by
 have h4b:((n:Int) % 4 != 0)=false:=by rw [bne_eq_false_iff_eq];omega
 obtain⟨q,hq⟩:∃q,n=4*q:=⟨n / 4,wu⟩
 have HQ:=sqH hq;have hq1:q*4<=n:=wu;have hq2:n<=q*4:=wu;clear hq h4;go_enter func173,ntmps173
 refine wL ?_;intros;refine ya rfl _ _ rfl z1a q rfl rfl wu wu ?_;intro w1 g1 hown1 hb1;go_wp2_with fail;go_loopw [4,5] (fun v i wr=>∃k:Nat,i= aB aC ((4*k:Nat):Int)/\k<=q/\wr.ownsRow w.heap.size 94 1 v k (wds (ku (l.take (4*k))))/\Below w.heap.size w wr) (fun _ i _=>n - (intOf i).toNat)
 case atStart=>exact⟨0,rfl,wu,hown1,hb1⟩
 case round =>
  obtain⟨k,rfl,hk,hown,hbel⟩:=hrel;by_cases hlt:k<q
  ·have hsz:=hbel.size;obtain⟨b,off,rfl,hbw,hcell0⟩:=hr.2 wu;have hcell:=fun j u h=>(hbel.cell (p:=⟨b,off+j,aF⟩) hbw).trans (hcell0 j u h);clear hcell0;have c0:=hcell (4*k) _ (vq l (4*k) wu);have c1:=hcell (4*k+1) _ (vq l (4*k+1) wu);have c2:=hcell (4*k+2) _ (vq l (4*k+2) wu);have c3:=hcell (4*k+3) _ (vq l (4*k+3) wu);have HS:=sqH (uE k l wu);clear hcell;generalize l[4*k]=b0 at *
   generalize l[4*k+1]=b1 at *
   generalize l[4*k+2]=b2 at *
   generalize l[4*k+3]=b3 at *
   have t0:=b0.toNat_lt;have t1:=b1.toNat_lt;have t2:=b2.toNat_lt;have t3:=b3.toNat_lt;generalize hm:4*k=m at *
   have HM:=sqH hm;have hm1:m+4<=n:=wu;clear hm;go_wp2_with fail;have hm0:=we m
   have hi0:(m:Int)<n:=wu;have q1:IntKind.i64.wrap ((m:Int)+1)=(m:Int)+1:=IntWalk.i64_in _ wu;have q2:IntKind.i64.wrap ((m:Int)+2)=(m:Int)+2:=IntWalk.i64_in _ wu;have q3:IntKind.i64.wrap ((m:Int)+3)=(m:Int)+3:=IntWalk.i64_in _ wu;have p1:(0:Int)<=(m:Int)+1:=wu;have p2:(0:Int)<=(m:Int)+2:=wu;have p3:(0:Int)<=(m:Int)+3:=wu;have s1:(m:Int)+1<n:=wu;have s2:(m:Int)+2<n:=wu;have s3:(m:Int)+3<n:=wu;have u1:((m:Int)+1).toNat=m+1:=wu;have u2:((m:Int)+2).toNat=m+2:=wu;have u3:((m:Int)+3).toNat=m+3:=wu;go_region_held3 (fun w'=>w'.cell? ⟨b,off+m,aF⟩=aG (aB .u8 b0.toNat)/\w'.cell? ⟨b,off+(m+1),aF⟩=aG (aB .u8 b1.toNat)/\w'.cell? ⟨b,off+(m+2),aF⟩=aG (aB .u8 b2.toNat)/\w'.cell? ⟨b,off+(m+3),aF⟩=aG (aB .u8 b3.toNat))
    (first | go_keep | (go_split_ands;refine⟨xB (yR (hown.alloc _)) hg2 hbw (by assumption),xB (yR (hown.alloc _)) hg2 hbw (by assumption),xB (yR (hown.alloc _)) hg2 hbw (by assumption),xB (yR (hown.alloc _)) hg2 hbw (by assumption)⟩))
    (first | (refine Z4 rfl (.tmp 23) (.tmp 53) rfl z1a ac (yR (hown.alloc _)) ac (Rd.newN (us:= [_]) (m:=1) rfl) (by simp;rfl) wu af ?_;intro v2 w2 hown2 hg2 _))
   rw [KE]at hown2;have hb2:=zh (hbel.alloc hsz (.cells #[aB .u32 (wd (wOf b0 b1 b2 b3))] 94)).drew (yR (hown.alloc _)) ag (by rw [<-KE];exact hg2);clear hg2 q1 q2 q3 p1 p2 p3 s1 s2 s3 u1 u2 u3;go_wp2_with fail;go_roundw
   case rel=>exact⟨k+1,by have:=HM.o;go_num,wu,by rw [HS.o];simpa [wds] using hown2,hb2⟩
   case measure=>simp [intOf];omega
  ·obtain rfl:k=q:=by omega
   rw [List.take_of_length_le wu]at hown;have hqq:n / 4=k:=wu;have HQQ:=sqH hqq;clear hqq;generalize hm:4*k=m at *
   have HM:=sqH hm;have hm1:n<=m:=wu;clear hm;go_wp2_with fail;go_ret2;exact⟨_,rfl,by rw [HQQ.o];exact hown,hbel⟩
theorem Ys (x:BitVec 32) (n:Nat) (w:World) (hn:n<=31):Calls zZZ 207 #[aB .u32 (wd x),aB aC n] w fun e w'=>e= .returned (aB .u32 (wd (x.rotateRight n)))/\∃k,w'=w.drewN k:=by
 go_enter func207,ntmps207;go_wp2_with fail;go_quiet (fail);go_wp2_with fail;go_ret;refine⟨?_,_,rfl⟩;show Ending.returned (aB .u32 (bits BinOp.or IntKind.u32 (wd x / 2 ^ n) (wd x*2 ^ (32 - n) % 4294967296)))=_;rw [z3t x n hn]
theorem qe (x:BitVec 32) (n:Nat) (N:Int) (hN:N=n) (w:World) (hn:n<=31):Calls zZZ 207 #[aB .u32 (wd x),aB aC N] w fun e w'=>e= .returned (aB .u32 (wd (x.rotateRight n)))/\∃k,w'=w.drewN k:=by
 subst hN;exact Ys x n w hn
def yx (x:BitVec 32):Nat->BitVec 32
 | 0=>x.rotateRight 2 ^^^ x.rotateRight 13 ^^^ x.rotateRight 22
 | 1=>x.rotateRight 6 ^^^ x.rotateRight 11 ^^^ x.rotateRight 25
 | 2=>x.rotateRight 7 ^^^ x.rotateRight 18 ^^^ x >>> 3
 | _=>x.rotateRight 17 ^^^ x.rotateRight 19 ^^^ x >>> 10
theorem QV (x:BitVec 32) (n:Nat) (N:Int) (hN:N=n) (w:World) (hn:n<=3):Calls zZZ 189 #[aB .u32 (wd x),aB aC N] w fun e w'=>e= .returned (.tuple #[aB .u32 (wd (yx x n)),aB aC 0])/\∃k,w'=w.drewN k:=by
 match n,hn with
 | 0,_ =>
  obtain rfl:N=0:=hN;go_enter func189,ntmps189;go_wp2_with fail;refine(qe x 2 _ rfl _ wu).mono ?_;rintro e_ w_ ⟨rfl,k1,rfl⟩;dsimp only;go_wp2_with fail;refine(qe x 13 _ rfl _ wu).mono ?_;rintro e_ w_ ⟨rfl,k2,rfl⟩;dsimp only;go_wp2_with fail;refine(qe x 22 _ rfl _ wu).mono ?_;rintro e_ w_ ⟨rfl,k3,rfl⟩;dsimp only;go_wp2_with fail;go_ret2;refine⟨?_,_,rfl⟩;simp only [qG];rfl
 | 1,_ =>
  obtain rfl:N=1:=hN;go_enter func189,ntmps189;go_wp2_with fail;refine(qe x 6 _ rfl _ wu).mono ?_;rintro e_ w_ ⟨rfl,k1,rfl⟩;dsimp only;go_wp2_with fail;refine(qe x 11 _ rfl _ wu).mono ?_;rintro e_ w_ ⟨rfl,k2,rfl⟩;dsimp only;go_wp2_with fail;refine(qe x 25 _ rfl _ wu).mono ?_;rintro e_ w_ ⟨rfl,k3,rfl⟩;dsimp only;go_wp2_with fail;go_ret2;refine⟨?_,_,rfl⟩;simp only [qG];rfl
 | 2,_ =>
  obtain rfl:N=2:=hN;go_enter func189,ntmps189;go_wp2_with fail;refine(qe x 7 _ rfl _ wu).mono ?_;rintro e_ w_ ⟨rfl,k1,rfl⟩;dsimp only;go_wp2_with fail;refine(qe x 18 _ rfl _ wu).mono ?_;rintro e_ w_ ⟨rfl,k2,rfl⟩;dsimp only;go_wp2_with fail;go_ret2;refine⟨?_,_,rfl⟩;rw [show(wd x:Int) / (8:Int)=wd (x >>> 3) from ZZ x 3];simp only [qG];rfl
 | 3,_ =>
  obtain rfl:N=3:=hN;go_enter func189,ntmps189;go_wp2_with fail;refine(qe x 17 _ rfl _ wu).mono ?_;rintro e_ w_ ⟨rfl,k1,rfl⟩;dsimp only;go_wp2_with fail;refine(qe x 19 _ rfl _ wu).mono ?_;rintro e_ w_ ⟨rfl,k2,rfl⟩;dsimp only;go_wp2_with fail;go_ret2;refine⟨?_,_,rfl⟩;rw [show(wd x:Int) / (1024:Int)=wd (x >>> 10) from ZZ x 10];simp only [qG];rfl
theorem VA:(zZZ.info? 105).map (·.size)=aG 2:=by kernel_rfl
theorem z1n:liesAt zZZ zZZ.depth 105 (2 / zZZ.cellsOf 105) 0 105 1=true:=by kernel_rfl
theorem uH (b:Nat) (w:World) (h0:w.cell? ⟨b,0,aF⟩=aG (.pointer (aG ⟨b,0,aF⟩))) :
  Calls zZZ 60 #[.pointer (aG ⟨b,0,aF⟩)] w fun e w'=>e= .returned (.tuple #[])/\w=w':=by
 obtain⟨j,hj,_⟩:=Option.map_eq_some_iff.1 VA;have hne:=fun W=>Lib.run_neq_ptr_same (P:=zZZ) W (tp:=103) ⟨b,0,aF⟩ underlying103 hj;clear hj;go_enter func60,ntmps60;go_wp2;go_end0;exact⟨rfl,rfl⟩
theorem uc (b:Nat) (w:World) (h0:w.cell? ⟨b,0,aF⟩=aG (.pointer aF)) (hsh:w.shape? b=aG (105,2)) (hfz:w.frozen? ⟨b,0,aF⟩=false) :
  Calls zZZ 60 #[.pointer (aG ⟨b,0,aF⟩)] w fun e w'=>e= .returned (.tuple #[])/\w.setCell ⟨b,0,aF⟩ (.pointer (aG ⟨b,0,aF⟩))=w':=by
 obtain⟨j,hj,hjs⟩:=Option.map_eq_some_iff.1 VA;have h1:=Lib.run_to_unsafe (P:=zZZ) w (src:=103) (dst:=153) ⟨b,0,aF⟩ underlying103 underlying153 hj (by rw [hjs];decide) hsh (Nat.zero_lt_succ 1);have h2:=Lib.run_from_unsafe (P:=zZZ) w (src:=153) (dst:=103) ⟨b,0,aF⟩ underlying153 underlying103 hj hsh z1n;have h3:∀W,(callFunc 80 #[.pointer (aG ⟨b,0,aF⟩)]).run zZZ W= .ok (.value (.pointer (aG ⟨b,0,aF⟩))) W:=fun W=>by
  rw [run_callFunc_extern func80 ww ww ww (e:=Extern.AbiNoEscape.same) ww,Lib.run_noEscape];rfl
 clear hj;go_enter func60,ntmps60;go_wp2;go_end0;exact⟨rfl,rfl⟩
theorem Zr (B b:Nat) (bs:ak) (w:World) (h:Lib.IsBuilder 105 5 B b bs w) :
  Calls zZZ 60 #[.pointer (aG ⟨b,0,aF⟩)] w fun e w'=>e= .returned (.tuple #[])/\(Lib.BuilderAt 105 5 B b (.pointer (aG ⟨b,0,aF⟩)) bs w'/\Below B w w'):=by
 rcases h with h | h
 ·refine(uc b w h.cell0 h.shape h.frozen0).mono fun e w' ⟨he,hw⟩=>⟨he,?_⟩
  subst hw;exact⟨h.used _,(Below.refl _ _).setCell (p:=⟨b,0,aF⟩) h.1 _⟩
 ·refine(uH b w h.cell0).mono fun e w' ⟨he,hw⟩=>⟨he,?_⟩
  subst hw;exact⟨h,Below.refl _ _⟩
theorem vm (B b:Nat) (bs:ak) (c:Int) (w:World) (h:Lib.IsBuilder 105 5 B b bs w) (hlen:bs.length+1<=140737488355328) (hBw:B<=w.heap.size) :
  Calls zZZ 43 #[.pointer (aG ⟨b,0,aF⟩),aB .u8 c] w fun e w'=>e= .returned .nilIface/\(Lib.BuilderAt 105 5 B b (.pointer (aG ⟨b,0,aF⟩)) (bs++ [aB .u8 c]) w'/\Below B w w'):=by
 go_enter func43,ntmps43;go_wp2_with fail;refine(Zr B b bs _ h).mono ?_;rintro e_ w1 ⟨rfl,h1,hb1⟩;dsimp only;obtain⟨hB,v,hbk,hown,hne⟩:=h1;have c0:w1.cell? ⟨b,0,aF⟩=aG (.pointer (aG ⟨b,0,aF⟩)):=by rw [Lib.cell_of_heap hbk];rfl
 have c1:w1.cell? ⟨b,1,aF⟩=aG v:=by rw [Lib.cell_of_heap hbk];rfl
 have hz:=hb1.size
 refine wL ?_;intros;refine zj rfl _ _ rfl vu ac hown rfl rfl (by simp;rfl) wu wu ?_;intro v' w2 hown' hgrow _;have hlt:b<w1.heap.size:=by
  rcases Nat.lt_or_ge b w1.heap.size with h' | h'
  ·exact h'
  ·simp [Array.getElem?_eq_none h']at hbk
 have hb2:w2.heap[b]?=aG (.cells #[.pointer (aG ⟨b,0,aF⟩),v] 105 (0,0)):=by
  rw [hgrow.block b hlt (fun e=>hne e.symm)];exact hbk
 have d0:w2.cell? ⟨b,0,aF⟩=aG (.pointer (aG ⟨b,0,aF⟩)):=by rw [Lib.cell_of_heap hb2];rfl
 have d1:w2.cell? ⟨b,1,aF⟩=aG v:=by rw [Lib.cell_of_heap hb2];rfl
 have f1:w2.frozen? ⟨b,1,aF⟩=false:=Lib.frozen_of_heap hb2 1;obtain⟨g,cap,rfl⟩:∃g cap,v'= aA (aG ⟨g,0,aF⟩) (bs.length+1) cap:=by
  rcases hown'.2 with ⟨_,h0⟩ | ⟨g,cap,cur,hv,_⟩
  ·omega
  ·exact⟨g,cap,hv⟩
 go_wp2_with fail;go_ret;refine⟨rfl,?_,?_⟩
 ·exact Lib.BuilderAt.put (T:=105) (e:=5) hB hb2 (bs':=bs++ [aB .u8 c]) (by simpa using hown') aa
 ·exact(hb1.grown hgrow wu (fun k hk=>(hown.lt k hk).1)).setCell (p:=⟨b,1,aF⟩) hB _
def dig (n:Nat):UInt8:=if n<10 then UInt8.ofNat (48+n) else UInt8.ofNat (87+n)
def hx1 (c:UInt8):ai:= [dig (c.toNat / 16),dig (c.toNat % 16)]
def kH (l:ai):ai:=l.flatMap hx1
theorem yj (l:ai):(kH l).length=2*l.length:=by
 induction l with
 | nil=>rfl
 | cons x l ih=>simp only [kH,List.flatMap_cons,List.length_append,List.length_cons] at *;rw [ih];simp [hx1];omega
theorem XU (l:ai) (k:Nat) (h:k<l.length):kH (l.take (k+1))=kH (l.take k)++hx1 l[k]:=by
 unfold kH;rw [List.take_succ_eq_append_getElem h,List.flatMap_append,List.flatMap_cons,List.flatMap_nil,List.append_nil]
theorem z17 (m:Nat) (h:m<(⟨#[48,49,50,51,52,53,54,55,56,57,97,98,99,100,101,102]⟩:ByteArray).size) :
  ((⟨#[48,49,50,51,52,53,54,55,56,57,97,98,99,100,101,102]⟩:ByteArray)[m]'h).toNat=(dig m).toNat:=by
 have key:∀m:Fin 16,((⟨#[48,49,50,51,52,53,54,55,56,57,97,98,99,100,101,102]⟩:ByteArray)[m.val]'m.isLt).toNat=(dig m.val).toNat:=aa;exact key ⟨m,h⟩
theorem Qo (A:aj) (n c:Nat) (l:ai) (w:World) (hl:l.length=n) (hn:n<=70368744177664) (hc:n<=c) (hr:Rd w 1 A n (bys l)) :
  Calls zZZ 26 #[aA A n c] w fun e w'=>e= .returned (aD ⟨(kH l).toArray⟩)/\Below w.heap.size w w':=by
 go_enter func26,ntmps26;go_wp2_with fail;go_loopw [5,8] (fun u i wr=>∃k:Nat,i= aB aC k/\k<=n/\Lib.IsBuilder 105 5 w.heap.size w.heap.size (bys (kH (l.take k))) wr/\Below w.heap.size w wr) (fun _ i _=>n - (intOf i).toNat)
 case atStart=>exact⟨0,rfl,wu,Lib.fresh_isBuilder _ _ _,(Below.refl _ _).alloc ag _⟩
 case round =>
  obtain⟨k,rfl,hk,hB,hbel⟩:=hrel;have hle:=yj (l.take k);rw [List.length_take]at hle;by_cases hlt:k<n
  ·obtain⟨b,off,u,rfl,_,hu,hcell⟩:=(hr.below hbel).at_ hlt;rw [vq l k wu]at hu;cases hu
   have HS:=sqH (XU l k wu);generalize l[k]=x at *
   have hx:=x.toNat_lt
   refine wL ?_;intros;rw [dif_pos ⟨wu,wu⟩];simp only [z17,Result.andThen];go_wp2_with fail;refine(vm _ _ _ _ _ hB (by rw [qt];omega) hbel.size).mono ?_;rintro e_ w1 ⟨rfl,hB1,hb1⟩;dsimp only;have hbel1:=hbel.trans hb1
   refine wL ?_;intros;rw [dif_pos ⟨wu,wu⟩];simp only [z17,Result.andThen];go_wp2_with fail;refine(vm _ _ _ _ _ (.inr hB1) (by simp [qt];omega) hbel1.size).mono ?_;rintro e_ w2 ⟨rfl,hB2,hb2⟩;dsimp only;have hbel2:=hbel1.trans hb2;go_wp2_with fail;go_roundw
   case rel=>exact⟨k+1,by go_num,wu,.inr (by rw [HS.o,q6];simpa [hx1,bys] using hB2),hbel2⟩
   case measure=>simp [intOf];omega
  ·obtain rfl:k=n:=by omega
   rw [List.take_of_length_le wu]at hB;go_wp2_with fail;refine wZ (Tryz.Builder_String_any _ _ (kH l) _ hB hbel.size) fun w1 hb1=>?_;dsimp only;go_wp2_with fail;go_ret;exact⟨rfl,hbel.trans hb1⟩
def z5g:ByteArray:=⟨#[48,49,50,51,52,53,54,55,56,57,97,98,99,100,101,102]⟩
def val (c:UInt8):Int:=Lib.indexByte [48,49,50,51,52,53,54,55,56,57,97,98,99,100,101,102] c
def xn:List UInt8->Option (ai)
 | []=>aG []
 | [_]=>aF
 | a::b::r=>if val a<0\/val b<0 then aF else (xn r).map (UInt8.ofNat (16*(val a).toNat+(val b).toNat):: ·)
def kr (l:ai):ai×Nat :=
 if 4000<l.length then ([],1) else if l.length % 2=1 then ([],3) else match xn l with | none=>([],3) | some r=>(r,0)
theorem y9 (c:UInt8): -1<=val c/\val c<=15:=by
 have key:∀n:Fin 256, -1<=val (UInt8.ofNat n.val)/\val (UInt8.ofNat n.val)<=15:=by decide +kernel
 have:=key ⟨c.toNat,c.toNat_lt⟩;rw [show UInt8.ofNat (c.toNat)=c from UInt8.ofNat_toNat]at this;exact this
theorem Ui (c:UInt8) (w:World):Calls zZZ 41 #[aD z5g,aB .u8 (c.toNat:Int)] w fun e w'=>e= .returned (aB aC (val c))/\w'=w:=by
 refine(Tryz.strings_IndexByte z5g (c.toNat:Int) w).mono fun e w' ⟨he,hw⟩=>⟨?_,hw⟩
 rw [he];have:((c.toNat:Int)).toNat.toUInt8=c:=by rw [Int.toNat_natCast];exact UInt8.ofNat_toNat
 rw [this];rfl
theorem ZG (s:ByteArray) (w:World) (hs:s.size<=140737488351232) :
  Calls zZZ 20 #[aD s] w fun e w'=>∃A c,e= .returned (.tuple #[aA A (kr s.data.toList).1.length c,aB aC (kr s.data.toList).2])/\OwnB 5 w.heap.size w' A c (kr s.data.toList).1/\Below w.heap.size w w':=by
 have hsz:s.data.toList.length=s.size:=by rw [Array.length_toList];rfl
 by_cases hbig:4000<s.size
 ·have hfin:kr s.data.toList=([],1):=by rw [kr,if_pos wu]
  have HF:=sqH hfin;clear hfin;go_enter func20,ntmps20;go_wp2_with fail;go_ret2;rw [HF.o];exact⟨aF,0,rfl,OwnB.nil_ _ _ _,Below.refl _ _⟩
 ·by_cases hodd:s.size % 2=1
  ·have hfin:kr s.data.toList=([],3):=by rw [kr,if_neg wu,if_pos wu]
   have HF:=sqH hfin;clear hfin;have h2:((s.size:Int) % 2 != 0)=true:=by rw [bne_iff_ne];omega
   clear hodd;go_enter func20,ntmps20;go_wp2_with fail;go_ret2;rw [HF.o];exact⟨aF,0,rfl,OwnB.nil_ _ _ _,Below.refl _ _⟩
  ·have hfin:kr s.data.toList=match xn s.data.toList with | none=>([],3) | some r=>(r,0):=by rw [kr,if_neg wu,if_neg wu]
   have HF:=sqH hfin;clear hfin;have h2:((s.size:Int) % 2 != 0)=false:=by rw [bne_eq_false_iff_eq];omega
   obtain⟨q,hq⟩:∃q,s.size=2*q:=⟨s.size / 2,wu⟩
   have hq1:q*2<=s.size:=wu;have hq2:s.size<=q*2:=wu;have HZ:=sqH hsz;clear hodd hq hsz;go_enter func20,ntmps20
   refine wL ?_;intros;refine ya rfl _ _ rfl vu q rfl rfl wu wu ?_;intro w1 g1 hown1 hb1;go_wp2_with fail;go_loopw [4,5,6,7] (fun v i x y wr=>∃(k:Nat) (acc:ai),i= aB aC ((2*k:Nat):Int)/\k<=q/\acc.length=k/\xn s.data.toList=(xn (s.data.toList.drop (2*k))).map (acc++ ·) /\
    wr.ownsRow w.heap.size 5 1 v acc.length (bys acc)/\Below w.heap.size w wr) (fun _ i _ _ _=>s.size - (intOf i).toNat)
   case atStart=>exact⟨0, [],rfl,wu,rfl,ab,hown1,hb1⟩
   case round =>
    obtain⟨k,acc,rfl,hk,hacc,hun,hown,hbel⟩:=hrel;have HU:=sqH hun;clear hun;have HA:=sqH hacc;clear hacc;have hsw:=hbel.size;generalize hm:2*k=m at *
    have HM:=sqH hm;by_cases hlt:k<q
    ·have hm1:m+1<s.size:=wu
     have hm0:m<s.size:=wu;have hi0:=we m
     have hi1:(m:Int)<(s.size:Int):=wu;have hi2:(m:Int)+1<(s.size:Int):=wu;have hi3:(0:Int)<=(m:Int)+1:=wu;have hw1:IntKind.i64.wrap ((m:Int)+1)=(m:Int)+1:=IntWalk.i64_in _ wu;have hn1:((m:Int)+1).toNat=m+1:=wu;have hd:s.data.toList.drop m=s[m]::s[m+1]::s.data.toList.drop (m+2):=by
      have hz:=HZ.o;rw [List.drop_eq_getElem_cons wu,List.drop_eq_getElem_cons (i:=m+1) wu];rfl
     have HD:=sqH hd;have ra:=y9 s[m];have rb:=y9 s[m+1];clear hm hd;by_cases hbad:val s[m]<0\/val s[m+1]<0
     ·have hfin:kr s.data.toList=([],3):=by rw [HF.o,HU.o,HD.o,xn,if_pos hbad];rfl
      have HG:=sqH hfin;clear hfin;have ha0:val s[m]<0\/¬val s[m]<0/\val s[m+1]<0:=wu;clear hbad;rcases ha0 with ha0 | ⟨ha0,ha1⟩
      all_goals
       go_wp2_with fail;go_quiet ((go_at_call 41;exact Calls.quiet_of_same (Ui _ _)));go_wp2_with fail;go_ret2;rw [HG.o];exact⟨aF,0,rfl,OwnB.nil_ _ _ _,zO hbel _⟩
     ·have hstep:xn s.data.toList=(xn (s.data.toList.drop (m+2))).map ((acc++ [UInt8.ofNat (16*(val s[m]).toNat+(val s[m+1]).toNat)])++ ·):=by
       rw [HU.o,HD.o,xn,if_neg hbad,Option.map_map]
       congr 1;funext x;simp
      have HG:=sqH hstep;clear hstep;have hna:¬val s[m]<0:=fun h=>hbad (.inl h);have hnb:¬val s[m+1]<0:=fun h=>hbad (.inr h);clear hbad;have hacl:=HA.o;go_wp2_with fail;go_quiet ((go_at_call 41;exact Calls.quiet_of_same (Ui _ _)))
      refine wL ?_;intros;refine zj rfl (.tmp 40) (.tmp 46) rfl vu ac (ZR hown nq) rfl rfl (by simp;rfl) wu hsw ?_;intro v2 w2 hown2 hg2 _;have hb2:=zh (zO hbel nq) (ZR hown nq) ag hg2;have e1:bys (acc++ [UInt8.ofNat (16*(val s[m]).toNat+(val s[m+1]).toNat)])=bys acc++ [aB .u8 (16*val s[m]+val s[m+1])]:=by
       rw [q6];congr 1;simp only [bys,List.map_cons,List.map_nil,UInt8.toNat_ofNat']
       congr 2;omega
      go_wp2_with fail;rw [<-e1]at hown2;go_roundw
      case rel=>exact⟨k+1,acc++ [UInt8.ofNat (16*(val s[m]).toNat+(val s[m+1]).toNat)],by have:=HM.o;go_num,wu,by rw [List.length_append];simp only [List.length_cons,List.length_nil];omega,by rw [show 2*(k+1)=m+2 by have:=HM.o;omega];exact HG.o,by rw [List.length_append];exact hown2,hb2⟩
      case measure=>simp [intOf];omega
    ·have hkq:k=q:=wu
     have hfin:kr s.data.toList=(acc,0):=by
      rw [HF.o,HU.o,List.drop_of_length_le (wc HZ),xn];simp
     have HG:=sqH hfin;clear hfin;obtain⟨A1,c1,rfl,hc1,_⟩:=Rd.of_own' hown;have hmm:s.size<=m:=wu;clear hkq hm;go_wp2_with fail;go_ret2;rw [HG.o];exact⟨A1,c1,rfl,⟨hown,hc1⟩,hbel⟩
theorem kv (A:aj) (n c:Nat) (l:ai) (w:World) (hl:l.length=n) (hc:n<=c) (hm:n<=140737488353280) (hr:Rd w 1 A n (bys l)) :
  Calls zZZ 23 #[aA A n c] w fun e w'=>∃v,e= .returned v/\w'.ownsRow w.heap.size 5 1 v n (bys l)/\Below w.heap.size w w':=by
 have heq:=fun W=>Lib.run_eql_slice_nil (P:=zZZ) W 25 5 A n c 0 0 underlying25;cases A with
 | none =>
  obtain rfl:n=0:=by
   rcases Nat.eq_zero_or_pos n with h | h
   ·exact h
   ·obtain⟨_,_,h1,_⟩:=hr.2 h;cases h1
  obtain rfl:l= []:=List.eq_nil_of_length_eq_zero hl;go_enter func23,ntmps23;go_wp2_with fail;go_ret;exact⟨_,rfl,World.ownsRow_nil _ _ _ _,Below.refl _ _⟩
 | some ad =>
  go_enter func23,ntmps23
  refine wL ?_;intros;refine zG rfl (.tmp 5) (.tmp 6) rfl vu ac (World.ownsRow_made (size:=1) w #[] 0 ag (by simp [maxLen]) rfl) ac (hr.alloc _) (kC _) wu ab ?_;intro v1 w1 hown1 hg1 _;have hb1:=zh ((Below.refl _ _).alloc ag _) (World.ownsRow_made (size:=1) w #[] 0 ag (by simp [maxLen]) rfl) ag hg1;go_wp2_with fail;go_ret;exact⟨_,rfl,by simpa using hown1,hb1⟩
def xG:Nat->Nat->List UInt8->Nat×ai×Nat
 | _,_, []=>(0, [],8)
 | i,n,c::r =>
  if c.toNat<128 then
   if 4294967295<n+c.toNat % 128*128 ^ i\/(c.toNat=0/\0<i) then (0, [],3) else (n+c.toNat % 128*128 ^ i,r,0)
  else if i=4 then (0, [],3) else xG (i+1) (n+c.toNat % 128*128 ^ i) r
def zm (b:ai):Nat×ai×Nat:=xG 0 0 b
theorem VP (n:Int) (h0:0<=n) (h1:n<2 ^ 63):IntKind.i64.wrap n=n:=by
 rw [IntKind.wrap_i64];simp at h1;omega
theorem JR (N c k:Nat) (hk:k<=4) (hN:N<128 ^ k) (hc:c<128):bits .or aC (N:Int) (wrap64 ((c:Int) % 128*2 ^ (7*k)))=((N+c % 128*128 ^ k:Nat):Int):=by
 have e0:(128:Nat) ^ k=2 ^ (7*k):=by rw [show(128:Nat)=2 ^ 7 by rfl,<-Nat.pow_mul]
 have hp:2 ^ (7*k)<=2 ^ 28:=Nat.pow_le_pow_right wu wu;have hm:c % 128=c:=Nat.mod_eq_of_lt hc;have hb:c*2 ^ (7*k)<=127*2 ^ 28:=Nat.mul_le_mul wu hp;have e1:((c:Int) % 128*2 ^ (7*k))=((c*2 ^ (7*k):Nat):Int):=by
  rw [show((c:Int) % 128)=(c:Int) by omega,Int.natCast_mul,Int.natCast_pow];rfl
 rw [e1,show wrap64 ((c*2 ^ (7*k):Nat):Int)=((c*2 ^ (7*k):Nat):Int) from IntWalk.wrap64_in _ ⟨wu,wu⟩];have h2:N<2 ^ 63:=by rw [e0]at hN;omega
 rw [(bits_nat aC 63 aa VP N (c*2 ^ (7*k)) h2 wu).2,hm,e0]
 congr 1
 rw [e0]at hN;have:=Nat.two_pow_add_eq_or_of_lt hN c;rw [Nat.or_comm,Nat.mul_comm,<-this];omega
set_option maxRecDepth 20000 in
theorem jB (A:aj) (n c:Nat) (l:ai) (w:World) (hl:l.length=n) (hc:n<=c) (hm:n<=140737488353280) (hr:Rd w 1 A n (bys l)) :
  Calls zZZ 25 #[aA A n c] w fun e w'=>∃v,e= .returned (.tuple #[aB aC (zm l).1,v,aB aC (zm l).2.2]) /\
   w'.ownsRow w.heap.size 5 1 v (zm l).2.1.length (bys (zm l).2.1)/\Below w.heap.size w w':=by
 go_enter func25,ntmps25
 refine wL ?_;intros;go_loop [5,10] (fun m i=>∃k N:Nat,i= aB aC k/\m= aB aC N/\k<=n/\k<=4/\N<128 ^ k/\zm l=xG k N (l.drop k)) (fun _ i=>n - (intOf i).toNat)
 case atStart=>exact⟨0,0,rfl,rfl,wu,wu,ab,rfl⟩
 case round =>
  obtain⟨k,N,rfl,rfl,hk,hk4,hN,hrd⟩:=hrel;have HR:=sqH hrd;clear hrd;have HN:=sqH hN;clear hN;by_cases hlt:k<n
  ·obtain⟨b,off,u,rfl,_,hu,hcell⟩:=hr.at_ hlt;rw [vq l k wu]at hu;cases hu
   have hc0:=l[k].toNat_lt;generalize hcc:l[k].toNat=cc at *
   have HC:=sqH hcc;clear hcc;have hdr:l.drop k=l[k]::l.drop (k+1):=List.drop_eq_getElem_cons wu;have HD:=sqH hdr;clear hdr;by_cases h128:cc<128
   ·have hor:=JR N cc k hk4 HN.o h128;generalize hM:N+cc % 128*128 ^ k=M at *
    have HM:=sqH hM;clear hM;by_cases hbig:4294967295<M
    ·have hfin:zm l=(0, [],3):=by rw [HR.o,HD.o,xG,HC.o,if_pos h128,HM.o,if_pos (.inl hbig)]
     have HF:=sqH hfin;clear hfin
     refine wL ?_;intros;go_ret3;rw [HF.o];exact⟨_,rfl,World.ownsRow_nil _ _ _ _,Below.refl _ _⟩
    ·by_cases h00:cc=0/\0<k
     ·have hfin:zm l=(0, [],3):=by rw [HR.o,HD.o,xG,HC.o,if_pos h128,if_pos (.inr h00)]
      have HF:=sqH hfin;clear hfin;obtain⟨h0,hk0⟩:=h00;have hcc1:((cc:Int)==0)=true:=beq_iff_eq.2 wu;clear h0
      refine wL ?_;intros;go_ret3;rw [HF.o];exact⟨_,rfl,World.ownsRow_nil _ _ _ _,Below.refl _ _⟩
     ·have hfin:zm l=(M,l.drop (k+1),0):=by rw [HR.o,HD.o,xG,HC.o,if_pos h128,HM.o,if_neg wu]
      have HF:=sqH hfin;clear hfin;have hcut:=hr.cutAt (k:=k+1) (c:=c) wu hc;rw [yM]at hcut;have hlen:(l.drop (k+1)).length=n - (k+1):=by rw [List.length_drop,hl]
      have HL:=sqH hlen;clear hlen;by_cases hc0':cc=0
      ·have hcc1:((cc:Int)==0)=true:=beq_iff_eq.2 wu;have hk0:k<=0:=wu
       clear hc0' h00
       refine wL ?_;intros;refine(kv _ _ _ _ _ HL.o wu wu hcut).mono ?_;rintro e_ w_ ⟨v1,rfl,hown1,hb1⟩;dsimp only
       refine wL ?_;intros;go_ret3;rw [HF.o];exact⟨_,rfl,by rw [HL.o];exact hown1,hb1⟩
      ·have hcc0:((cc:Int)==0)=false:=beq_eq_false_iff_ne.2 wu
       refine wL ?_;intros;refine(kv _ _ _ _ _ HL.o wu wu hcut).mono ?_;rintro e_ w_ ⟨v1,rfl,hown1,hb1⟩;dsimp only
       refine wL ?_;intros;go_ret3;rw [HF.o];exact⟨_,rfl,by rw [HL.o];exact hown1,hb1⟩
   ·have hor:=JR N (cc - 128) k hk4 HN.o wu;have ecc:((cc - 128:Nat):Int) % 128=(cc:Int) % 128:=wu
    have ecd:(cc - 128) % 128=cc % 128:=wu;rw [ecc,ecd]at hor;clear ecc ecd;generalize hM:N+cc % 128*128 ^ k=M at *
    have HM:=sqH hM;clear hM;by_cases h4:k=4
    ·subst h4;have hfin:zm l=(0, [],3):=by rw [HR.o,HD.o,xG,HC.o,if_neg h128,if_pos rfl]
     have HF:=sqH hfin;clear hfin
     refine wL ?_;intros;go_ret3;rw [HF.o];exact⟨_,rfl,World.ownsRow_nil _ _ _ _,Below.refl _ _⟩
    ·have hnext:zm l=xG (k+1) M (l.drop (k+1)):=by rw [HR.o,HD.o,xG,HC.o,if_neg h128,if_neg h4,HM.o]
     have HF:=sqH hnext;clear hnext;have hMlt:M<128 ^ (k+1):=by
      have h1:=HM.o;have h2:=HN.o;have h3:cc % 128*128 ^ k<=127*128 ^ k:=Nat.mul_le_mul wu ag;rw [Nat.pow_succ];omega
     have HG:=sqH hMlt;clear hMlt;have hk4b:((k:Int)==4)=false:=beq_eq_false_iff_ne.2 wu
     refine wL ?_;intros;go_round
     case rel=>exact⟨k+1,M,by go_num,rfl,wu,wu,HG.o,HF.o⟩
     case measure=>simp [intOf];omega
  ·have hfin:zm l=(0, [],8):=by rw [HR.o,List.drop_of_length_le wu,xG]
   have HF:=sqH hfin;clear hfin
   refine wL ?_;intros;go_ret3;rw [HF.o];exact⟨_,rfl,World.ownsRow_nil _ _ _ _,Below.refl _ _⟩
theorem qM {c:Nat} {l:ai} {er:Nat} (E:Int) (hE:er=E) (hrd:zm l=(m,rest,er)) (hl:l.length=n) (hc:n<=c) (hm:n<=140737488353280) (hr:Rd w 1 A n (bys l)) :
  Calls zZZ 25 #[aA A n c] w fun e w'=>∃A' c',e= .returned (.tuple #[aB aC m,aA A' rest.length c',aB aC E]) /\
   OwnB 5 w.heap.size w' A' c' rest/\Below w.heap.size w w':=by
 subst hE;refine(jB A n c l w hl hc hm hr).mono fun e w' ⟨v,he,ho,hb⟩=> ?_;rw [hrd]at he ho;obtain⟨A',c',rfl,h⟩:=OwnB.of rfl ho;exact⟨A',c',he,h,hb⟩
theorem Jk:∀(k n i a:Nat) (more:ai),i+k=4->n<128 ^ (k+1)->(i=0\/0<n)->a+n*128 ^ i<=4294967295 ->
  xG i a (num n++more)=(a+n*128 ^ i,more,0):=by
 intro k
 induction k with
 | zero =>
  intro n i a more hi hn h0 hb;have hn:n<128:=by simpa using hn
  rw [qh hn,List.cons_append,List.nil_append,xG];have e:(UInt8.ofNat n).toNat=n:=by simp;omega
  rw [e,if_pos hn,Nat.mod_eq_of_lt hn,if_neg wu]
 | succ k ih =>
  intro n i a more hi hn h0 hb;by_cases h:n<128
  ·rw [qh h,List.cons_append,List.nil_append,xG];have e:(UInt8.ofNat n).toNat=n:=by simp;omega
   rw [e,if_pos h,Nat.mod_eq_of_lt h,if_neg wu]
  ·rw [uu h,List.cons_append,xG];have e:(UInt8.ofNat (n % 128+128)).toNat=n % 128+128:=by simp;omega
   have e2:(n % 128+128) % 128=n % 128:=wu;rw [e,if_neg wu,if_neg wu,e2];have hd:n=n % 128+n / 128*128:=wu;have e3:a+n*128 ^ i=a+n % 128*128 ^ i+n / 128*128 ^ (i+1):=by
    rw [Nat.pow_succ];have:n*128 ^ i=(n % 128+n / 128*128)*128 ^ i:=by rw [<-hd]
    rw [this,Nat.add_mul,Nat.mul_assoc,Nat.mul_comm 128 (128 ^ i)];omega
   rw [e3]at hb ⊢
   exact ih (n / 128) (i+1) _ more wu (by rw [Nat.div_lt_iff_lt_mul wu];simpa [Nat.pow_succ] using hn) (.inr wu) hb
theorem yH (n:Nat) (more:ai) (h:n<=4294967295):zm (num n++more)=(n,more,0):=by
 have:=Jk 4 n 0 0 more rfl wu (.inl rfl) (by simpa using h);simpa [zm] using this
theorem Jj:∀(b:ai) (i a m:Nat) (rest:ai),i<=4->xG i a b=(m,rest,0) ->
  m<=4294967295/\∃n,m=a+n*128 ^ i/\b=num n++rest/\(i=0\/0<n):=by
 intro b
 induction b with
 | nil=>intro i a m rest _ h;simp [xG]at h
 | cons c r ih =>
  intro i a m rest hi h;rw [xG]at h;by_cases hc:c.toNat<128
  ·rw [if_pos hc]at h;split at h
   ·simp at h
   ·rename_i hx;simp only [Prod.mk.injEq,and_true]at h;obtain⟨rfl,rfl⟩:=h;rw [Nat.mod_eq_of_lt hc]at hx ⊢
    refine⟨wu,c.toNat,rfl,?_,wu⟩;rw [qh hc];simp
  ·rw [if_neg hc]at h;split at h
   ·simp at h
   ·rename_i h4;obtain⟨hm,n,e1,e2,e3⟩:=ih (i+1) _ m rest wu h;have hn:0<n:=wu
    have hc2:=c.toNat_lt;refine⟨hm,c.toNat % 128+128*n,?_,?_,.inr wu⟩
    ·rw [e1,Nat.pow_succ,Nat.add_mul];have:n*(128 ^ i*128)=128*n*128 ^ i:=by rw [Nat.mul_comm (128 ^ i) 128,<-Nat.mul_assoc,Nat.mul_comm n 128]
     omega
    ·rw [uu wu,e2];have h1:(c.toNat % 128+128*n) % 128+128=c.toNat:=wu
     have h2:(c.toNat % 128+128*n) / 128=n:=wu;rw [h1,h2];simp
theorem xH {b:ai} (h:zm b=(m,rest,0)):m<=4294967295/\b=num m++rest:=by
 obtain⟨h1,n,h2,h3,_⟩:=Jj b 0 0 m rest wu h;simp at h2;subst h2;exact⟨h1,h3⟩
def bl (n:Nat):Nat:=if h:n=0 then 0 else bl (n / 2)+1
termination_by n
decreasing_by omega
theorem YY (N:Nat) (M:Int) (hM:M=N) (w:World) (hN:N<=4294967295):Calls zZZ 19 #[aB aC M] w fun e w'=>∃v,e= .returned (.tuple #[v,aB aC 0]) /\
  w'.ownsRow w.heap.size 5 1 v (num N).length (bys (num N))/\Below w.heap.size w w':=by
 subst hM;exact YZ N w hN
theorem kT (N:Nat) (M:Int) (hM:M=N) (w:World) (hN:N<=4294967295):Calls zZZ 19 #[aB aC M] w fun e w'=>∃A c,e= .returned (.tuple #[aA A (num N).length c,aB aC 0]) /\
  OwnB 5 w.heap.size w' A c (num N)/\Below w.heap.size w w':=by
 refine(YY N M hM w hN).mono fun e w' ⟨v,he,ho,hb⟩=> ?_;obtain⟨A',c',rfl,h⟩:=OwnB.of rfl ho;exact⟨A',c',he,h,hb⟩
theorem z1r {base:Nat} {cap k:Nat} {xs:ak} (h:w.ownsRow base e size (aA A n cap) n xs) (hk:k<=n) :
  w.ownsRow base e size (aA A k cap) k (xs.take (k*size)):=by
 refine⟨by rw [List.length_take,h.1];exact Nat.min_eq_left (Nat.mul_le_mul_right _ hk),?_⟩;rcases h.2 with ⟨h1,h2⟩ | ⟨g,cap',cur,hv,hb,hg,hnc,hcm,hcs,htake⟩
 ·left;injection h1 with e1 e2 e3;subst e1 e3;obtain rfl:k=0:=by omega
  exact⟨rfl,rfl⟩
 ·right;injection hv with e1 e2 e3;subst e1 e3;refine⟨g,cap,cur,rfl,hb,hg,wu,hcm,hcs,?_⟩;rw [<-htake,List.take_take,Nat.min_eq_left (Nat.mul_le_mul_right _ hk)]
theorem QE {ty:TypeId} (E:El P t e size bytes) (hit:P.underlying it=aG (.int aC)) (n:Nat) (h0:0<n) (hb:n*bytes<=140737488355328) :
  ∃cap cells,(Builtin.append_ #[t,it] ty #[aA aF 0 0,aB aC n]).run P w= .ok (aA (aG ⟨w.heap.size,0,aF⟩) n cap) (w.drew.alloc (.cells cells e))/\n<=cap/\cap<=maxLen/\cells.size=cap*size:=by
 have hpb:=E.posb;have hps:=E.pos;obtain⟨hu,⟨i,z,hi,hz,hs,hby,hzs⟩,_,_⟩:=E;have hn47:n<=140737488355328:=Nat.le_trans (Nat.le_mul_of_pos_right n hpb) hb;have hge:=grownCap_ge w n 0 e;have hcm:=grownCap_le_maxLen w n 0 e (by simp only [maxLen];omega);have h63':¬(9223372036854775807<(n:Int)):=wu;have h48':¬(281474976710656<Builtin.nextslicecap n 0*i.bytes):=by rw [nextslicecap_zero h0,hby];omega
 have hw:IntKind.i64.wrap (n:Int)=n:=by rw [IntKind.wrap_i64];omega
 have hl:¬((n:Int)<0):=wu;have hl2:¬(281474976710656<(n:Int)*(i.bytes:Int)):=by rw [hby,<-Int.natCast_mul];omega
 have hns:¬(n*i.size=0):=by rw [hs];exact Nat.ne_of_gt (Nat.mul_pos h0 hps)
 have hn0:n≠0:=wu;refine⟨grownCap w n 0 e,#[]++Builtin.zeroCells z.cells n++Builtin.zeroCells z.cells (grownCap w n 0 e - n),?_,hge,hcm,?_⟩
 ·simp [Builtin.append_,run_underlying hu,run_underlying hit,sizeOf,typeInfo,zeroValue,hi,hz,asInt,asIntOf,hw,hl,hl2,hn0,h63',h48',Question.forced,run_firstCells_none,newRow,grownCap];intro h;exact absurd h hns
 ·simp only [Array.size_append,size_zeroCells,hzs];rw [show(#[]:Array Value).size=0 from rfl,Nat.zero_add,<-Nat.add_mul];congr 1;omega
theorem YD {ops:Array Oper} {rest:List Oper} {o:Oper} {a:Act} {Q:al} (hgd:o.guard=aF) (s x:Operand) 
  (ho:o.op= .call { callee:= .builtin .append,args:=#[s,x],argTypes:=#[t,it] }) (E:El P t e size bytes) (hit:P.underlying it=aG (.int aC))
  (n:Nat) (h0:0<n) (hb:n*bytes<=140737488355328) (hs:a.eval s= aA aF 0 0) (hx:a.eval x= aB aC n)
  (h:∀A c w',w'.ownsRow w.heap.size e size (aA A 0 c) 0 []->n<=c->Below w.heap.size w w'->wpList P ops Q rest (a.put o.dst (aA A n c)) w') :
  wpList P ops Q (o::rest) a w:=by
 refine wpList_plain hgd fun _ hK=> ?_;obtain⟨cap,cells,hrun,h1,h2,h3⟩:=QE (P:=P) (w:=w) (ty:=o.type) E hit n h0 hb;unfold Oper.wp execOp;simp only [ho,resolve,invoke,builtin,Sem.run_bind,Sem.run_pure,Result.andThen_ok,List.map_toArray,List.map_cons,List.map_nil,hs,hx,hrun];refine hK _ _ (h _ _ _ ?_ h1 ((Below.refl _ _).drew.alloc ag _));exact World.ownsRow_made w.drew cells cap ag h2 h3
end Go.Proofs.YtcjmjaefcjcomaaGreat
