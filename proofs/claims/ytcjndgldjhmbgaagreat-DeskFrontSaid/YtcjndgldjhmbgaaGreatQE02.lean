/- Lemmas, as stated. -/
import Derived.Shelf.Strings.Builder1
import Derived.Shelf.Small.Bits
import Derived.Shelf.Small.Strs
import Derived.Shelf.Strings.BuilderF
import Derived.Shelf.Strings.BuilderK
import Derived.Shelf.Strconv.Itoa0
import Derived.Shelf.Strings.Search1
import Derived.Shelf.Sort.Plain
import Derived.Shelf.Strings.BuilderCap
import Derived.Shelf.Slices.Turned
import Derived.Shelf.Slices.Equal
import Derived.Ground.Names2Prog
import Derived.Shelf.Slices.Clone
import Derived.Shelf.Slices.CompactS
import Derived.Shelf.Slices.Cells
import Derived.Shelf.Slices.In.SortNone
import Derived.Shelf.Slices.Empties2
import Derived.Shelf.Bytes.SlSearch0
import Derived.Ground.SlbCloneProg
import Derived.Shelf.Bytes.SlClone
import Derived.Shelf.Bytes.SlSmallAll
import Derived.Shelf.Bytes.SlEqualAll
import Derived.Shelf.Bytes.Small
import Derived.Test.YtcjndgldjhmbgaaGreatProg
set_option linter.unusedVariables false
set_option linter.unusedSimpArgs false
open Go.Proofs.Tryz renaming prog->zZZ
open Go.Value renaming slice->aw,int->ax,string->az
open Option renaming none->aB,some->aC
namespace Go.Proofs
open Go.Shelf
def Tryz.lays169_ren:Go.Shelf.Ren:=⟨fun | 169=>117 | n=>n,fun | 70=>175 | 9=>9 | 0=>0 | 72=>177 | 37=>44 | 127=>224 | 3=>3 | 5=>5 | n=>n,fun | n=>n⟩
theorem Tryz.lays169:Go.Proofs.Lays.n169 zZZ Tryz.lays169_ren:= {
 mixed:=by kernel_rfl
 f169:=Tryz.func117.trans (congrArg aC (by kernel_rfl))
 t0:=Tryz.underlying0
 a0:=Tryz.isAgg0
 z0:=Tryz.sizeOf0
 v0:=Tryz.zeroValue0
 t3:=Tryz.underlying3
 a3:=Tryz.isAgg3
 z3:=Tryz.sizeOf3
 v3:=Tryz.zeroValue3
 t9:=Tryz.underlying9
 a9:=Tryz.isAgg9
 z9:=Tryz.sizeOf9
 v9:=Tryz.zeroValue9
 t37:=Tryz.underlying44
 a37:=Tryz.isAgg44
 z37:=Tryz.sizeOf44
 v37:=Tryz.zeroValue44
 t70:=Tryz.underlying175
 a70:=Tryz.isAgg175
 z70:=Tryz.sizeOf175
 v70:=Tryz.zeroValue175
 t72:=Tryz.underlying177
 a72:=Tryz.isAgg177
 z72:=Tryz.sizeOf177
 v72:=Tryz.zeroValue177
 t127:=Tryz.underlying224
 a127:=Tryz.isAgg224
 z127:=Tryz.sizeOf224
 v127:=Tryz.zeroValue224 }
theorem Tryz.Builder_Extra_169:Builder.Extra zZZ Tryz.lays169_ren:= {
 sizeBuilder:=by kernel_rfl
 liesBuilder:=by kernel_rfl
 t5:=Tryz.underlying5
 a5:=Tryz.isAgg5
 z5:=Tryz.sizeOf5
 v5:=Tryz.zeroValue5
 infoByte:=by kernel_rfl
 cellsByte:=by kernel_rfl
 sizeByte:=by kernel_rfl
 neB5:=by decide }
open Go.RowKit in
theorem Tryz.Builder_String_any (B b:Nat) (l:List UInt8) (w:World) (h:Lib.IsBuilder 177 5 B b (Lib.byteCells l) w) (hBw:B<=w.heap.size) :
  Calls zZZ 117 #[.pointer (aC ⟨b,0,aB⟩)] w fun e w'=>e= .returned (az ⟨l.toArray⟩)/\Below B w w':=Any.Builder_String_any Tryz.lays169 Tryz.Builder_Extra_169 B b l w h hBw
def Tryz.lays106_ren:Go.Shelf.Ren:=⟨fun | 106=>205 | 213=>220 | 265=>229 | n=>n,fun | 9=>9 | 3=>3 | n=>n,fun | n=>n⟩
theorem Tryz.lays106:Go.Proofs.Lays.n106 zZZ Tryz.lays106_ren:= {
 mixed:=by kernel_rfl
 f106:=Tryz.func205.trans (congrArg aC (by kernel_rfl))
 f213:=Tryz.func220.trans (congrArg aC (by kernel_rfl))
 f265:=Tryz.func229.trans (congrArg aC (by kernel_rfl))
 t3:=Tryz.underlying3
 a3:=Tryz.isAgg3
 z3:=Tryz.sizeOf3
 v3:=Tryz.zeroValue3
 t9:=Tryz.underlying9
 a9:=Tryz.isAgg9
 z9:=Tryz.sizeOf9
 v9:=Tryz.zeroValue9 }
open Go.RowKit in
theorem Tryz.strings_Compare (a b:ByteArray) (w:World) :
  Calls zZZ 205 #[az a,az b] w fun e w'=>e= .returned (ax .i64 (Lib.compareBytes a.data.toList b.data.toList))/\w'=w:=Any.strings_Compare Tryz.lays106 a b w
def Tryz.lays137_ren:Go.Shelf.Ren:=⟨fun | 137=>114 | 217=>155 | 266=>175 | n=>n,fun | 9=>9 | 5=>5 | 3=>3 | n=>n,fun | n=>n⟩
theorem Tryz.lays137:Go.Proofs.Lays.n137 zZZ Tryz.lays137_ren:= {
 mixed:=by kernel_rfl
 f137:=Tryz.func114.trans (congrArg aC (by kernel_rfl))
 f217:=Tryz.func155.trans (congrArg aC (by kernel_rfl))
 f266:=Tryz.func175.trans (congrArg aC (by kernel_rfl))
 t3:=Tryz.underlying3
 a3:=Tryz.isAgg3
 z3:=Tryz.sizeOf3
 v3:=Tryz.zeroValue3
 t5:=Tryz.underlying5
 a5:=Tryz.isAgg5
 z5:=Tryz.sizeOf5
 v5:=Tryz.zeroValue5
 t9:=Tryz.underlying9
 a9:=Tryz.isAgg9
 z9:=Tryz.sizeOf9
 v9:=Tryz.zeroValue9 }
open Go.RowKit in
theorem Tryz.strings_IndexByte (s:ByteArray) (c:Int) (w:World) :
  Calls zZZ 114 #[az s,ax .u8 c] w fun e w'=>e= .returned (ax .i64 (Lib.indexByte s.data.toList c.toNat.toUInt8))/\w'=w:=Any.strings_IndexByte Tryz.lays137 s c w
def Tryz.lays190_ren:Go.Shelf.Ren:=⟨fun | 190=>148 | 125=>173 | 258=>172 | 128=>201 | 129=>202 | 302=>192 | 303=>193 | 304=>194 | 305=>195 | 306=>196 | 307=>197 | 308=>198 | 309=>199 | 310=>200 | 333=>214 | 329=>215 | 330=>216 | 334=>217 | 335=>218 | 336=>219 | 344=>228 | n=>n,fun | 31=>28 | 9=>9 | 3=>3 | 46=>208 | 0=>0 | 51=>129 | 53=>128 | 4=>4 | 183=>263 | 182=>262 | 131=>268 | 5=>5 | 218=>284 | 222=>288 | 228=>294 | 229=>295 | n=>n,fun | n=>n⟩
theorem Tryz.lays190:Go.Proofs.Lays.n190 zZZ Tryz.lays190_ren:= {
 mixed:=by kernel_rfl
 f125:=Tryz.func173.trans (congrArg aC (by kernel_rfl))
 f128:=Tryz.func201.trans (congrArg aC (by kernel_rfl))
 f129:=Tryz.func202.trans (congrArg aC (by kernel_rfl))
 f190:=Tryz.func148.trans (congrArg aC (by kernel_rfl))
 f258:=Tryz.func172.trans (congrArg aC (by kernel_rfl))
 f302:=Tryz.func192.trans (congrArg aC (by kernel_rfl))
 f303:=Tryz.func193.trans (congrArg aC (by kernel_rfl))
 f304:=Tryz.func194.trans (congrArg aC (by kernel_rfl))
 f305:=Tryz.func195.trans (congrArg aC (by kernel_rfl))
 f306:=Tryz.func196.trans (congrArg aC (by kernel_rfl))
 f307:=Tryz.func197.trans (congrArg aC (by kernel_rfl))
 f308:=Tryz.func198.trans (congrArg aC (by kernel_rfl))
 f309:=Tryz.func199.trans (congrArg aC (by kernel_rfl))
 f310:=Tryz.func200.trans (congrArg aC (by kernel_rfl))
 f329:=Tryz.func215.trans (congrArg aC (by kernel_rfl))
 f330:=Tryz.func216.trans (congrArg aC (by kernel_rfl))
 f333:=Tryz.func214.trans (congrArg aC (by kernel_rfl))
 f334:=Tryz.func217.trans (congrArg aC (by kernel_rfl))
 f335:=Tryz.func218.trans (congrArg aC (by kernel_rfl))
 f336:=Tryz.func219.trans (congrArg aC (by kernel_rfl))
 f344:=Tryz.func228.trans (congrArg aC (by kernel_rfl))
 t0:=Tryz.underlying0
 a0:=Tryz.isAgg0
 z0:=Tryz.sizeOf0
 v0:=Tryz.zeroValue0
 t3:=Tryz.underlying3
 a3:=Tryz.isAgg3
 z3:=Tryz.sizeOf3
 v3:=Tryz.zeroValue3
 t4:=Tryz.underlying4
 a4:=Tryz.isAgg4
 z4:=Tryz.sizeOf4
 v4:=Tryz.zeroValue4
 t5:=Tryz.underlying5
 a5:=Tryz.isAgg5
 z5:=Tryz.sizeOf5
 v5:=Tryz.zeroValue5
 t9:=Tryz.underlying9
 a9:=Tryz.isAgg9
 z9:=Tryz.sizeOf9
 v9:=Tryz.zeroValue9
 t31:=Tryz.underlying28
 a31:=Tryz.isAgg28
 z31:=Tryz.sizeOf28
 v31:=Tryz.zeroValue28
 t46:=Tryz.underlying208
 a46:=Tryz.isAgg208
 z46:=Tryz.sizeOf208
 v46:=Tryz.zeroValue208
 t51:=Tryz.underlying129
 a51:=Tryz.isAgg129
 z51:=Tryz.sizeOf129
 v51:=Tryz.zeroValue129
 t53:=Tryz.underlying128
 a53:=Tryz.isAgg128
 z53:=Tryz.sizeOf128
 v53:=Tryz.zeroValue128
 t131:=Tryz.underlying268
 a131:=Tryz.isAgg268
 z131:=Tryz.sizeOf268
 v131:=Tryz.zeroValue268
 t182:=Tryz.underlying262
 a182:=Tryz.isAgg262
 z182:=Tryz.sizeOf262
 v182:=Tryz.zeroValue262
 t183:=Tryz.underlying263
 a183:=Tryz.isAgg263
 z183:=Tryz.sizeOf263
 v183:=Tryz.zeroValue263
 t218:=Tryz.underlying284
 a218:=Tryz.isAgg284
 z218:=Tryz.sizeOf284
 v218:=Tryz.zeroValue284
 t222:=Tryz.underlying288
 a222:=Tryz.isAgg288
 z222:=Tryz.sizeOf288
 v222:=Tryz.zeroValue288
 t228:=Tryz.underlying294
 a228:=Tryz.isAgg294
 z228:=Tryz.sizeOf294
 v228:=Tryz.zeroValue294
 t229:=Tryz.underlying295
 a229:=Tryz.isAgg295
 z229:=Tryz.sizeOf295
 v229:=Tryz.zeroValue295 }
open Go.Sort Go.RowKit in
theorem Tryz.slices_Sort_string (blk off cap:Nat) (ss:List (List UInt8)) (w:World) (hH:Holds encStr w blk off ss.toArray) (hblk:blk<w.heap.size) (hsz:ss.length<4611686018427387904) :
  Calls zZZ 148 #[aw (aC ⟨blk,off,aB⟩) ss.length cap] w fun e w' =>
   e= .returned (.tuple #[])/\∃n os,w'=grow (putRow encStr (Sort.ahead w n) blk off (ss.mergeSort fun x y=>decide (x<=y)).toArray) os:=Any.slices_Sort_string Tryz.lays190 blk off cap ss w hH hblk hsz
def Tryz.lays107_ren:Go.Shelf.Ren:=⟨fun | 107=>29 | 108=>50 | n=>n,fun | 28=>46 | 3=>3 | 4=>4 | 0=>0 | n=>n,fun | n=>n⟩
theorem Tryz.lays107:Go.Proofs.Lays.n107 zZZ Tryz.lays107_ren:= {
 mixed:=by kernel_rfl
 f107:=Tryz.func29.trans (congrArg aC (by kernel_rfl))
 f108:=Tryz.func50.trans (congrArg aC (by kernel_rfl))
 t0:=Tryz.underlying0
 a0:=Tryz.isAgg0
 z0:=Tryz.sizeOf0
 v0:=Tryz.zeroValue0
 t3:=Tryz.underlying3
 a3:=Tryz.isAgg3
 z3:=Tryz.sizeOf3
 v3:=Tryz.zeroValue3
 t4:=Tryz.underlying4
 a4:=Tryz.isAgg4
 z4:=Tryz.sizeOf4
 v4:=Tryz.zeroValue4
 t28:=Tryz.underlying46
 a28:=Tryz.isAgg46
 z28:=Tryz.sizeOf46
 v28:=Tryz.zeroValue46 }
open Go.Lib in
theorem Tryz.slices_Contains_int (b off n c:Nat) (zs:List Int) (x:Int) (w:World) (hz:n<=zs.length) (hbig:n<=9223372036854775807) (hc:∀j,j<zs.length->w.cell? ⟨b,off+j,aB⟩=aC (ax .i64 (zs.getD j 0))) :
  Calls zZZ 29 #[aw (aC ⟨b,off,aB⟩) n c,ax .i64 x] w fun e w'=>e= .returned (.bool ((zs.take n).contains x))/\w'=w:=Any.slices_Contains_int Tryz.lays107 b off n c zs x w hz hbig hc
open Go.Lib in
theorem Tryz.slices_Contains_int_empty (a:Option Addr) (c:Nat) (x:Int) (w:World) :
  Calls zZZ 29 #[aw a 0 c,ax .i64 x] w fun e w'=>e= .returned (.bool false)/\w'=w:=Any.slices_Contains_int_empty Tryz.lays107 a c x w
def Tryz.lays110_ren:Go.Shelf.Ren:=⟨fun | 110=>110 | 109=>153 | n=>n,fun | 31=>28 | 9=>9 | 4=>4 | 3=>3 | 0=>0 | n=>n,fun | n=>n⟩
theorem Tryz.lays110:Go.Proofs.Lays.n110 zZZ Tryz.lays110_ren:= {
 mixed:=by kernel_rfl
 f109:=Tryz.func153.trans (congrArg aC (by kernel_rfl))
 f110:=Tryz.func110.trans (congrArg aC (by kernel_rfl))
 t0:=Tryz.underlying0
 a0:=Tryz.isAgg0
 z0:=Tryz.sizeOf0
 v0:=Tryz.zeroValue0
 t3:=Tryz.underlying3
 a3:=Tryz.isAgg3
 z3:=Tryz.sizeOf3
 v3:=Tryz.zeroValue3
 t4:=Tryz.underlying4
 a4:=Tryz.isAgg4
 z4:=Tryz.sizeOf4
 v4:=Tryz.zeroValue4
 t9:=Tryz.underlying9
 a9:=Tryz.isAgg9
 z9:=Tryz.sizeOf9
 v9:=Tryz.zeroValue9
 t31:=Tryz.underlying28
 a31:=Tryz.isAgg28
 z31:=Tryz.sizeOf28
 v31:=Tryz.zeroValue28 }
open Go.Lib in
theorem Tryz.slices_Contains_string (b off n c:Nat) (zs:List ByteArray) (x:ByteArray) (w:World) (hz:n<=zs.length) (hbig:n<=9223372036854775807) (hc:∀j,j<zs.length->w.cell? ⟨b,off+j,aB⟩=aC (az (zs.getD j ByteArray.empty))) :
  Calls zZZ 110 #[aw (aC ⟨b,off,aB⟩) n c,az x] w fun e w'=>e= .returned (.bool (Lib.containsS (zs.take n) x))/\w'=w:=Any.slices_Contains_string Tryz.lays110 b off n c zs x w hz hbig hc
open Go.Lib in
theorem Tryz.slices_Contains_string_empty (a:Option Addr) (c:Nat) (x:ByteArray) (w:World) :
  Calls zZZ 110 #[aw a 0 c,az x] w fun e w'=>e= .returned (.bool false)/\w'=w:=Any.slices_Contains_string_empty Tryz.lays110 a c x w
def Tryz.laysNm216_ren:Go.Shelf.Ren:=⟨fun | 16=>84 | n=>n,fun | 24=>28 | 9=>9 | 4=>4 | n=>n,fun | n=>n⟩
theorem Tryz.laysNm216:Go.Proofs.Lays2.n16 zZZ Tryz.laysNm216_ren:= {
 mixed:=by kernel_rfl
 f16:=Tryz.func84.trans (congrArg aC (by kernel_rfl))
 t4:=Tryz.underlying4
 a4:=Tryz.isAgg4
 z4:=Tryz.sizeOf4
 v4:=Tryz.zeroValue4
 t9:=Tryz.underlying9
 a9:=Tryz.isAgg9
 z9:=Tryz.sizeOf9
 v9:=Tryz.zeroValue9
 t24:=Tryz.underlying28
 a24:=Tryz.isAgg28
 z24:=Tryz.sizeOf28
 v24:=Tryz.zeroValue28
 i9:=by kernel_rfl }
open Go.RowKit Go.Lib in
theorem Tryz.slices_Clone_string (b off n c:Nat) (zs:List ByteArray) (w:World) (hz:n<=zs.length) (hbig:n*16<=140737488355328) (hc:∀j,j<zs.length->w.cell? ⟨b,off+j,aB⟩=aC (az (zs.getD j ByteArray.empty))) :
  Calls zZZ 84 #[aw (aC ⟨b,off,aB⟩) n c] w fun e w'=>∃v',e= .returned v'/\w'.ownsRow w.heap.size 9 1 v' n ((zs.take n).map (az))/\v'≠ aw aB 0 0/\Below w.heap.size w w':=Any.slices_Clone_string Tryz.laysNm216 b off n c zs w hz hbig hc
open Go.RowKit Go.Lib in
theorem Tryz.slices_Clone_string_nil (n c:Nat) (w:World) :
  Calls zZZ 84 #[aw aB n c] w fun e w'=>e= .returned (aw aB 0 0)/\w'=w:=Any.slices_Clone_string_nil Tryz.laysNm216 n c w
open Go.RowKit Go.Lib in
theorem Tryz.slices_Clone_string_zero (a:Addr) (c:Nat) (w:World) :
  Calls zZZ 84 #[aw (aC a) 0 c] w fun e w'=>∃v',e= .returned v'/\w'.ownsRow w.heap.size 9 1 v' 0 []/\v'≠ aw aB 0 0/\Below w.heap.size w w':=Any.slices_Clone_string_zero Tryz.laysNm216 a c w
def Tryz.lays194_ren:Go.Shelf.Ren:=⟨fun | 194=>174 | n=>n,fun | 31=>28 | 9=>9 | 3=>3 | 4=>4 | 0=>0 | n=>n,fun | n=>n⟩
theorem Tryz.lays194:Go.Proofs.Lays.n194 zZZ Tryz.lays194_ren:= {
 mixed:=by kernel_rfl
 f194:=Tryz.func174.trans (congrArg aC (by kernel_rfl))
 t0:=Tryz.underlying0
 a0:=Tryz.isAgg0
 z0:=Tryz.sizeOf0
 v0:=Tryz.zeroValue0
 t3:=Tryz.underlying3
 a3:=Tryz.isAgg3
 z3:=Tryz.sizeOf3
 v3:=Tryz.zeroValue3
 t4:=Tryz.underlying4
 a4:=Tryz.isAgg4
 z4:=Tryz.sizeOf4
 v4:=Tryz.zeroValue4
 t9:=Tryz.underlying9
 a9:=Tryz.isAgg9
 z9:=Tryz.sizeOf9
 v9:=Tryz.zeroValue9
 t31:=Tryz.underlying28
 a31:=Tryz.isAgg28
 z31:=Tryz.sizeOf28
 v31:=Tryz.zeroValue28 }
open Go.RowKit Go.Lib Go.Sort in
theorem Tryz.slices_Compact_string (blk off cap:Nat) (zs:List (List UInt8)) (w:World) (hH:Holds encStr w blk off zs.toArray) (hsz:zs.length<=9223372036854775807) (hcap:zs.length<=cap) :
  Calls zZZ 174 #[aw (aC ⟨blk,off,aB⟩) zs.length cap] w fun e w'=>e= .returned (aw (aC ⟨blk,off,aB⟩) (Lib.compact zs).length cap)/\∃q,w'=putRow encStr (Sort.ahead w q) blk off (Lib.compact zs++List.replicate (zs.length - (Lib.compact zs).length) []).toArray:=Any.slices_Compact_string Tryz.lays194 blk off cap zs w hH hsz hcap
open Go.RowKit Go.Lib Go.Sort in
theorem Tryz.slices_Compact_string_empty (a:Option Addr) (cap:Nat) (w:World) :
  Calls zZZ 174 #[aw a 0 cap] w fun e w'=>e= .returned (aw a 0 cap)/\w'=w:=Any.slices_Compact_string_empty Tryz.lays194 a cap w
open Go.RowKit Go.Sort in
theorem Tryz.slices_Sort_string_none (p:Option Addr) (cap:Nat) (w:World) :
  Calls zZZ 148 #[aw p 0 cap] w fun e w'=>e= .returned (.tuple #[])/\w'=w:=Any.slices_Sort_string_none Tryz.lays190 p cap w
def Tryz.laysnb141_ren:Go.Shelf.Ren:=⟨fun | 141=>118 | 116=>157 | 115=>177 | n=>n,fun | 37=>44 | 4=>4 | 3=>3 | 9=>9 | 5=>5 | n=>n,fun | n=>n⟩
theorem Tryz.laysnb141:Go.Proofs.Lays.nb141 zZZ Tryz.laysnb141_ren:= {
 mixed:=by kernel_rfl
 f115:=Tryz.func177.trans (congrArg aC (by kernel_rfl))
 f116:=Tryz.func157.trans (congrArg aC (by kernel_rfl))
 f141:=Tryz.func118.trans (congrArg aC (by kernel_rfl))
 t3:=Tryz.underlying3
 a3:=Tryz.isAgg3
 z3:=Tryz.sizeOf3
 v3:=Tryz.zeroValue3
 t4:=Tryz.underlying4
 a4:=Tryz.isAgg4
 z4:=Tryz.sizeOf4
 v4:=Tryz.zeroValue4
 t9:=Tryz.underlying9
 a9:=Tryz.isAgg9
 z9:=Tryz.sizeOf9
 v9:=Tryz.zeroValue9
 t37:=Tryz.underlying44
 a37:=Tryz.isAgg44
 z37:=Tryz.sizeOf44
 v37:=Tryz.zeroValue44
 t5:=Tryz.underlying5
 a5:=Tryz.isAgg5
 z5:=Tryz.sizeOf5
 v5:=Tryz.zeroValue5 }
theorem Tryz.bytes_CutPrefix_e1 (p1 p2:Option Addr) (c m d:Nat) (hm:0<m) (w:World) :
  Calls zZZ 118 #[aw p1 0 c,aw p2 m d] w fun e w'=>e= .returned (.tuple #[aw p1 0 c,.bool false])/\w'=w:=Any.bytes_CutPrefix_e1 Tryz.laysnb141 p1 p2 c m d hm w
theorem Tryz.bytes_CutPrefix (b1 o1 n c b2 o2 m d:Nat) (xs ys:List Int) (w:World) (hx:xs.length=n) (hy:ys.length=m) (hnc:n<=c) (hc1:∀i,i<n->w.cell? ⟨b1,o1+i,aB⟩=aC (ax .u8 (xs.getD i 0))) (hc2:∀i,i<m->w.cell? ⟨b2,o2+i,aB⟩=aC (ax .u8 (ys.getD i 0))) :
  Calls zZZ 118 #[aw (aC ⟨b1,o1,aB⟩) n c,aw (aC ⟨b2,o2,aB⟩) m d] w fun e w'=>e= .returned (.tuple #[Lib.bytesTrimPrefix b1 o1 n c xs ys,.bool (Lib.hasPrefix (Lib.bytesOf xs) (Lib.bytesOf ys))])/\w'=w:=Any.bytes_CutPrefix Tryz.laysnb141 b1 o1 n c b2 o2 m d xs ys w hx hy hnc hc1 hc2
end Go.Proofs
