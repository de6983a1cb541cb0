import Derived.Test.YtolnnaanmfnkjaaGreatDoorZ26
import Derived.Test.YtolnnaanmfnkjaaGreatDoorChecked
import Derived.Shelf.LaysM
import Derived.Shelf.Strconv.Itoa3
import Derived.Shelf.Strconv.Quote
import Derived.Shelf.Strings.Builder1
import Derived.KernelRfl
import Derived.WalkKit
import Derived.BigCall
import Derived.Shelf.Strings.BuilderF
import Derived.Shelf.Strings.BuilderK
import Derived.Lib.BufferKept
set_option linter.all false
set_option maxHeartbeats 0
set_option maxRecDepth 100000
namespace Go.Proofs
open Shelf RowKit
def Tryz.ahe:Go.Shelf.Ren:=⟨fun|166=>233|167=>195|240=>232|276=>271|169=>164|n=>n,fun|70=>191|72=>193|37=>22|75=>231|80=>170|164=>300|127=>235|n=>n,fun n=>n⟩
theorem Tryz.aij:Lays.n166 Tryz.prog Tryz.ahe where
 mixed:=by kernel_rfl
 f166:=Tryz.func233.trans (E6 some (by kernel_rfl))
 f240:=Tryz.func232.trans (E6 some (by kernel_rfl))
 f276:=Tryz.func271.trans (E6 some (by kernel_rfl))
 t0:=Tryz.underlying0
 a0:=Tryz.isAgg0
 z0:=Tryz.sizeOf0
 v0:=Tryz.zeroValue0
 t3:=Tryz.underlying3
 a3:=Tryz.isAgg3
 z3:=Tryz.sizeOf3
 v3:=Tryz.zeroValue3
 t4:=Tryz.underlying4
 a4:=Tryz.isAgg4
 z4:=Tryz.sizeOf4
 v4:=Tryz.zeroValue4
 t9:=Tryz.underlying9
 a9:=Tryz.isAgg9
 z9:=Tryz.sizeOf9
 v9:=Tryz.zeroValue9
 t20:=Tryz.underlying20
 a20:=Tryz.isAgg20
 z20:=Tryz.sizeOf20
 v20:=Tryz.zeroValue20
 t37:=Tryz.underlying22
 a37:=Tryz.isAgg22
 z37:=Tryz.sizeOf22
 v37:=Tryz.zeroValue22
 t70:=Tryz.underlying191
 a70:=Tryz.isAgg191
 z70:=Tryz.sizeOf191
 v70:=Tryz.zeroValue191
 t72:=Tryz.underlying193
 a72:=Tryz.isAgg193
 z72:=Tryz.sizeOf193
 v72:=Tryz.zeroValue193
 t75:=Tryz.underlying231
 a75:=Tryz.isAgg231
 z75:=Tryz.sizeOf231
 v75:=Tryz.zeroValue231
 t164:=Tryz.underlying300
 a164:=Tryz.isAgg300
 z164:=Tryz.sizeOf300
 v164:=Tryz.zeroValue300
theorem Tryz.aim:Lays.n167 Tryz.prog Tryz.ahe where
 mixed:=by kernel_rfl
 f167:=Tryz.func195.trans (E6 some (by kernel_rfl))
 f240:=Tryz.func232.trans (E6 some (by kernel_rfl))
 f276:=Tryz.func271.trans (E6 some (by kernel_rfl))
 t0:=Tryz.underlying0
 a0:=Tryz.isAgg0
 z0:=Tryz.sizeOf0
 v0:=Tryz.zeroValue0
 t4:=Tryz.underlying4
 a4:=Tryz.isAgg4
 z4:=Tryz.sizeOf4
 v4:=Tryz.zeroValue4
 t5:=Tryz.underlying5
 a5:=Tryz.isAgg5
 z5:=Tryz.sizeOf5
 v5:=Tryz.zeroValue5
 t9:=Tryz.underlying9
 a9:=Tryz.isAgg9
 z9:=Tryz.sizeOf9
 v9:=Tryz.zeroValue9
 t20:=Tryz.underlying20
 a20:=Tryz.isAgg20
 z20:=Tryz.sizeOf20
 v20:=Tryz.zeroValue20
 t37:=Tryz.underlying22
 a37:=Tryz.isAgg22
 z37:=Tryz.sizeOf22
 v37:=Tryz.zeroValue22
 t70:=Tryz.underlying191
 a70:=Tryz.isAgg191
 z70:=Tryz.sizeOf191
 v70:=Tryz.zeroValue191
 t72:=Tryz.underlying193
 a72:=Tryz.isAgg193
 z72:=Tryz.sizeOf193
 v72:=Tryz.zeroValue193
 t75:=Tryz.underlying231
 a75:=Tryz.isAgg231
 z75:=Tryz.sizeOf231
 v75:=Tryz.zeroValue231
 t164:=Tryz.underlying300
 a164:=Tryz.isAgg300
 z164:=Tryz.sizeOf300
 v164:=Tryz.zeroValue300
theorem Tryz.agw:Lays.n169 Tryz.prog Tryz.ahe where
 mixed:=by kernel_rfl
 f169:=Tryz.func164.trans (E6 some (by kernel_rfl))
 t0:=Tryz.underlying0
 a0:=Tryz.isAgg0
 z0:=Tryz.sizeOf0
 v0:=Tryz.zeroValue0
 t3:=Tryz.underlying3
 a3:=Tryz.isAgg3
 z3:=Tryz.sizeOf3
 v3:=Tryz.zeroValue3
 t9:=Tryz.underlying9
 a9:=Tryz.isAgg9
 z9:=Tryz.sizeOf9
 v9:=Tryz.zeroValue9
 t37:=Tryz.underlying22
 a37:=Tryz.isAgg22
 z37:=Tryz.sizeOf22
 v37:=Tryz.zeroValue22
 t70:=Tryz.underlying191
 a70:=Tryz.isAgg191
 z70:=Tryz.sizeOf191
 v70:=Tryz.zeroValue191
 t72:=Tryz.underlying193
 a72:=Tryz.isAgg193
 z72:=Tryz.sizeOf193
 v72:=Tryz.zeroValue193
 t127:=Tryz.underlying235
 a127:=Tryz.isAgg235
 z127:=Tryz.sizeOf235
 v127:=Tryz.zeroValue235
def Tryz.aeR:Go.Shelf.Ren:=⟨fun|177=>234|250=>272|289=>284|197=>293|323=>294|260=>302|339=>303|340=>304|242=>305|119=>306|345=>320|346=>321|278=>322|n=>n,fun|37=>22|105=>324|46=>326|119=>343|139=>346|138=>345|49=>347|234=>348|131=>143|51=>26|236=>350|n=>n,fun|3=>1|4=>2|20=>3|21=>4|22=>5|23=>6|24=>7|n=>n⟩
theorem Tryz.SE:Lays.n177 Tryz.prog Tryz.aeR where
 mixed:=by kernel_rfl
 f119:=Tryz.func306.trans (E6 some (by kernel_rfl))
 f177:=Tryz.func234.trans (E6 some (by kernel_rfl))
 f197:=Tryz.func293.trans (E6 some (by kernel_rfl))
 f242:=Tryz.func305.trans (E6 some (by kernel_rfl))
 f250:=Tryz.func272.trans (E6 some (by kernel_rfl))
 f260:=Tryz.func302.trans (E6 some (by kernel_rfl))
 f278:=Tryz.func322.trans (E6 some (by kernel_rfl))
 f289:=Tryz.func284.trans (E6 some (by kernel_rfl))
 f323:=Tryz.func294.trans (E6 some (by kernel_rfl))
 f339:=Tryz.func303.trans (E6 some (by kernel_rfl))
 f340:=Tryz.func304.trans (E6 some (by kernel_rfl))
 f345:=Tryz.func320.trans (E6 some (by kernel_rfl))
 f346:=Tryz.func321.trans (E6 some (by kernel_rfl))
 t0:=Tryz.underlying0
 a0:=Tryz.isAgg0
 z0:=Tryz.sizeOf0
 v0:=Tryz.zeroValue0
 t3:=Tryz.underlying3
 a3:=Tryz.isAgg3
 z3:=Tryz.sizeOf3
 v3:=Tryz.zeroValue3
 t4:=Tryz.underlying4
 a4:=Tryz.isAgg4
 z4:=Tryz.sizeOf4
 v4:=Tryz.zeroValue4
 t5:=Tryz.underlying5
 a5:=Tryz.isAgg5
 z5:=Tryz.sizeOf5
 v5:=Tryz.zeroValue5
 t9:=Tryz.underlying9
 a9:=Tryz.isAgg9
 z9:=Tryz.sizeOf9
 v9:=Tryz.zeroValue9
 t21:=Tryz.underlying21
 a21:=Tryz.isAgg21
 z21:=Tryz.sizeOf21
 v21:=Tryz.zeroValue21
 t37:=Tryz.underlying22
 a37:=Tryz.isAgg22
 z37:=Tryz.sizeOf22
 v37:=Tryz.zeroValue22
 t46:=Tryz.underlying326
 a46:=Tryz.isAgg326
 z46:=Tryz.sizeOf326
 v46:=Tryz.zeroValue326
 t49:=Tryz.underlying347
 a49:=Tryz.isAgg347
 z49:=Tryz.sizeOf347
 v49:=Tryz.zeroValue347
 t51:=Tryz.underlying26
 a51:=Tryz.isAgg26
 z51:=Tryz.sizeOf26
 v51:=Tryz.zeroValue26
 t105:=Tryz.underlying324
 a105:=Tryz.isAgg324
 z105:=Tryz.sizeOf324
 v105:=Tryz.zeroValue324
 t119:=Tryz.underlying343
 a119:=Tryz.isAgg343
 z119:=Tryz.sizeOf343
 t131:=Tryz.underlying143
 a131:=Tryz.isAgg143
 z131:=Tryz.sizeOf143
 v131:=Tryz.zeroValue143
 t138:=Tryz.underlying345
 a138:=Tryz.isAgg345
 z138:=Tryz.sizeOf345
 v138:=Tryz.zeroValue345
 t139:=Tryz.underlying346
 a139:=Tryz.isAgg346
 z139:=Tryz.sizeOf346
 v139:=Tryz.zeroValue346
 t234:=Tryz.underlying348
 a234:=Tryz.isAgg348
 z234:=Tryz.sizeOf348
 v234:=Tryz.zeroValue348
 t236:=Tryz.underlying350
 a236:=Tryz.isAgg350
 z236:=Tryz.sizeOf350
 v236:=Tryz.zeroValue350
 g3:=by kernel_rfl
 g4:=by kernel_rfl
 g20:=by kernel_rfl
 g21:=by kernel_rfl
 g22:=by kernel_rfl
 g23:=by kernel_rfl
 g24:=by kernel_rfl
def Tryz.arB:Go.Shelf.Ren:=⟨fun|246=>283|283=>289|284=>290|285=>291|286=>292|129=>298|317=>297|318=>299|319=>300|320=>301|337=>318|338=>319|n=>n,fun|171=>319|53=>83|37=>22|173=>322|212=>331|51=>26|213=>332|46=>326|232=>354|233=>355|n=>n,fun|17=>0|18=>8|19=>9|n=>n⟩
theorem Tryz.afu:LaysM.n246 Tryz.prog Tryz.arB where
 mixed:=by kernel_rfl
 f129:=Tryz.func298.trans (E6 some (by kernel_rfl))
 f246:=Tryz.func283.trans (E6 some (by kernel_rfl))
 f283:=Tryz.func289.trans (E6 some (by kernel_rfl))
 f284:=Tryz.func290.trans (E6 some (by kernel_rfl))
 f285:=Tryz.func291.trans (E6 some (by kernel_rfl))
 f286:=Tryz.func292.trans (E6 some (by kernel_rfl))
 f317:=Tryz.func297.trans (E6 some (by kernel_rfl))
 f318:=Tryz.func299.trans (E6 some (by kernel_rfl))
 f319:=Tryz.func300.trans (E6 some (by kernel_rfl))
 f320:=Tryz.func301.trans (E6 some (by kernel_rfl))
 f337:=Tryz.func318.trans (E6 some (by kernel_rfl))
 f338:=Tryz.func319.trans (E6 some (by kernel_rfl))
 t0:=Tryz.underlying0
 a0:=Tryz.isAgg0
 z0:=Tryz.sizeOf0
 v0:=Tryz.zeroValue0
 t2:=Tryz.underlying2
 a2:=Tryz.isAgg2
 z2:=Tryz.sizeOf2
 v2:=Tryz.zeroValue2
 t3:=Tryz.underlying3
 a3:=Tryz.isAgg3
 z3:=Tryz.sizeOf3
 v3:=Tryz.zeroValue3
 t4:=Tryz.underlying4
 a4:=Tryz.isAgg4
 z4:=Tryz.sizeOf4
 v4:=Tryz.zeroValue4
 t5:=Tryz.underlying5
 a5:=Tryz.isAgg5
 z5:=Tryz.sizeOf5
 v5:=Tryz.zeroValue5
 t9:=Tryz.underlying9
 a9:=Tryz.isAgg9
 z9:=Tryz.sizeOf9
 v9:=Tryz.zeroValue9
 t20:=Tryz.underlying20
 a20:=Tryz.isAgg20
 z20:=Tryz.sizeOf20
 v20:=Tryz.zeroValue20
 t37:=Tryz.underlying22
 a37:=Tryz.isAgg22
 z37:=Tryz.sizeOf22
 v37:=Tryz.zeroValue22
 t46:=Tryz.underlying326
 a46:=Tryz.isAgg326
 z46:=Tryz.sizeOf326
 v46:=Tryz.zeroValue326
 t51:=Tryz.underlying26
 a51:=Tryz.isAgg26
 z51:=Tryz.sizeOf26
 v51:=Tryz.zeroValue26
 t53:=Tryz.underlying83
 a53:=Tryz.isAgg83
 z53:=Tryz.sizeOf83
 v53:=Tryz.zeroValue83
 t171:=Tryz.underlying319
 a171:=Tryz.isAgg319
 z171:=Tryz.sizeOf319
 v171:=Tryz.zeroValue319
 t173:=Tryz.underlying322
 a173:=Tryz.isAgg322
 z173:=Tryz.sizeOf322
 v173:=Tryz.zeroValue322
 t212:=Tryz.underlying331
 a212:=Tryz.isAgg331
 z212:=Tryz.sizeOf331
 v212:=Tryz.zeroValue331
 t213:=Tryz.underlying332
 a213:=Tryz.isAgg332
 z213:=Tryz.sizeOf332
 t232:=Tryz.underlying354
 a232:=Tryz.isAgg354
 z232:=Tryz.sizeOf354
 v232:=Tryz.zeroValue354
 t233:=Tryz.underlying355
 a233:=Tryz.isAgg355
 z233:=Tryz.sizeOf355
 v233:=Tryz.zeroValue355
 g17:=by kernel_rfl
 g18:=by kernel_rfl
 g19:=by kernel_rfl
 i0:=by kernel_rfl
 i2:=by kernel_rfl
 i3:=by kernel_rfl
 i4:=by kernel_rfl
 i5:=by kernel_rfl
 i9:=by kernel_rfl
 i20:=by kernel_rfl
 i37:=by kernel_rfl
 i46:=by kernel_rfl
 i51:=by kernel_rfl
 i53:=by kernel_rfl
 i171:=by kernel_rfl
 i173:=by kernel_rfl
 i212:=by kernel_rfl
 i232:=by kernel_rfl
 i233:=by kernel_rfl
 m17:=by kernel_rfl
 m18:=by kernel_rfl
 m19:=by kernel_rfl
theorem Tryz.Ov:Builder.Extra Tryz.prog Tryz.ahe where
 sizeBuilder:=by kernel_rfl
 liesBuilder:=by kernel_rfl
 t5:=Tryz.underlying5
 a5:=Tryz.isAgg5
 z5:=Tryz.sizeOf5
 v5:=Tryz.zeroValue5
 infoByte:=by kernel_rfl
 cellsByte:=by kernel_rfl
 sizeByte:=by kernel_rfl
 neB5:=by decide
def ai9 (w:World):Prop:=∃T:Lib.PrintTabs,Lib.PrintTabsAt 3 4 5 6 T w/\Lib.Utf8Tabs 1 2 w
def C8 (B:Nat) (w:World):Prop:=∀w',Below B w w'->ai9 w'
theorem C8.now {B:Nat} {w:World} (h:C8 B w):ai9 w:=h w (Below.refl B w)
theorem C8.keep {B:Nat} {w w':World} (h:C8 B w) (hb:Below B w w'):C8 B w':=fun w'' h2=>h w'' (hb.trans h2)
theorem Tryz.ak7 (s:ByteArray) (w:World) (hlen:10 * s.size+12<=140737488355328) (h:ai9 w):
  Calls Tryz.prog 234 #[.string s] w fun e w'=>∃T:Lib.PrintTabs,e=.returned (.string (strOfNums (Lib.quoteZ T s)))/\Below w.heap.size w w':=by
 obtain ⟨T,h1,h2⟩:=h;exact (Any.strconv_Quote Tryz.SE (by kernel_rfl) T s w hlen h1 h2).mono fun e w' h=>⟨T,h⟩
end Go.Proofs
namespace Go.Ey.Pr
open Seat
abbrev Bs:=List UInt8
def qB (s:ByteArray):Bs:=34::(s.data.toList++[34])
def oL (p s:ByteArray):Bs:=qB p++qB s
def oO:Ob->Bs
 |.num n d=>110::(n.data.toList++47::(d.data.toList++[32]))
 |.sy p s=>115::oL p s
 |.st t=>116::qB t
 |.cons a b=>91::(oO a++(oO b++[93]))
mutual
def oz:Tm->Bs
 |.var p s=>118::oL p s
 |.dV o=>99::oO o
 |.app p s ts=>40::(oL p s++(zo ts++[41]))
def zo:List Tm->Bs
 |[]=>[]
 |t::ts=>oz t++zo ts
end
def OY (c:UInt8) (s:ByteArray):Bool:=!s.data.toList.contains c
def plO:Ob->Bool
 |.num n d=>OY 47 n && OY 32 d
 |.sy p s=>OY 34 p && OY 34 s
 |.st t=>OY 34 t
 |.cons a b=>plO a && plO b
mutual
def ZH:Tm->Bool
 |.var p s=>OY 34 p && OY 34 s
 |.dV o=>plO o
 |.app p s ts=>OY 34 p && OY 34 s && TI ts
def TI:List Tm->Bool
 |[]=>true
 |t::ts=>ZH t && TI ts
end
theorem Hu {c:UInt8}:∀{a b r r':Bs},a.contains c=false->b.contains c=false->a++c::r=b++c::r'->a=b/\r=r'
 |[],[],r,r',_,_,h=>by simpa using h
 |[],y::b,r,r',_,hb,h=>by simp only [E2,E3,Dg] at h;simp [h.1] at hb
 |x::a,[],r,r',ha,_,h=>by simp only [E2,E3,Dg] at h;simp [h.1] at ha
 |x::a,y::b,r,r',ha,hb,h=>by simp only [E3,Dg] at h;simp only [List.contains_cons,Bool.or_eq_false_iff] at ha hb;obtain ⟨h1,h2⟩:=Hu ha.2 hb.2 h.2;exact ⟨by rw [h.1,h1],h2⟩
theorem Xu {a b:ByteArray} (h:a.data.toList=b.data.toList):a=b:=by obtain ⟨a⟩:=a;obtain ⟨b⟩:=b;congr 1;exact Array.toList_inj.1 h
theorem JP {c:UInt8} {s:ByteArray} (h:OY c s=true):s.data.toList.contains c=false:=by simpa [OY] using h
theorem YU {a b:ByteArray} {r r':Bs} (ha:OY 34 a=true) (hb:OY 34 b=true) (h:qB a++r=qB b++r'):a=b/\r=r':=by simp only [qB,E3,B9,E2,Dg,L4] at h;obtain ⟨h1,h2⟩:=Hu (JP ha) (JP hb) h;exact ⟨Xu h1,h2⟩
theorem JJ {p s p' s':ByteArray} {r r':Bs} (h1:OY 34 p=true) (h2:OY 34 s=true) (h3:OY 34 p'=true) (h4:OY 34 s'=true) (h:oL p s++r=oL p' s'++r'):(p=p'/\s=s')/\r=r':=by simp only [oL,B9] at h;obtain ⟨e1,h⟩:=YU h1 h3 h;obtain ⟨e2,h⟩:=YU h2 h4 h;exact ⟨⟨e1,e2⟩,h⟩
theorem ad5:∀(a b:Ob) (r r':Bs),plO a=true->plO b=true->oO a++r=oO b++r'->a=b/\r=r':=by
 intro a;induction a with
 |num n d=>
  intro b r r' ha hb h;cases b with
  |num n' d'=>
   simp only [plO,A5] at ha hb;simp only [oO,E3,B9,E2,Dg,L4] at h;obtain ⟨h1,h⟩:=Hu (JP ha.1) (JP hb.1) h;obtain ⟨h2,h⟩:=Hu (JP ha.2) (JP hb.2) h;exact ⟨by rw [Xu h1,Xu h2],h⟩
  |_=>simp [oO] at h
 |sy p s=>
  intro b r r' ha hb h;cases b with
  |sy p' s'=>
   simp only [plO,A5] at ha hb;simp only [oO,E3,Dg,L4] at h;obtain ⟨⟨rfl,rfl⟩,k⟩:=JJ ha.1 ha.2 hb.1 hb.2 h;exact ⟨rfl,k⟩
  |_=>simp [oO] at h
 |st t=>
  intro b r r' ha hb h;cases b with
  |st t'=>
   simp only [plO] at ha hb;simp only [oO,E3,Dg,L4] at h;obtain ⟨rfl,k⟩:=YU ha hb h;exact ⟨rfl,k⟩
  |_=>simp [oO] at h
 |cons a1 a2 ih1 ih2=>
  intro b r r' ha hb h;cases b with
  |cons b1 b2=>
   simp only [plO,A5] at ha hb;simp only [oO,E3,B9,E2,Dg,L4] at h;obtain ⟨rfl,k⟩:=ih1 b1 _ _ ha.1 hb.1 h;obtain ⟨rfl,k2⟩:=ih2 b2 _ _ ha.2 hb.2 k;simp only [Dg,L4] at k2;exact ⟨rfl,k2⟩
  |_=>simp [oO] at h
theorem P9 (t:Tm):∃c l,oz t=c::l/\c≠41:=by
 cases t with
 |var p s=>exact ⟨118,_,rfl,by decide⟩
 |dV o=>exact ⟨99,_,rfl,by decide⟩
 |app p s ts=>exact ⟨40,_,rfl,by decide⟩
mutual
theorem Vj:∀(a b:Tm) (r r':Bs),ZH a=true->ZH b=true->oz a++r=oz b++r'->a=b/\r=r'
 |.var p s,b,r,r',ha,hb,h=>by
  cases b with
  |var p' s'=>
   simp only [ZH,A5] at ha hb;simp only [oz,E3,Dg,L4] at h;obtain ⟨⟨rfl,rfl⟩,k⟩:=JJ ha.1 ha.2 hb.1 hb.2 h;exact ⟨rfl,k⟩
  |_=>simp [oz] at h
 |.dV o,b,r,r',ha,hb,h=>by
  cases b with
  |dV o'=>
   simp only [ZH] at ha hb;simp only [oz,E3,Dg,L4] at h;obtain ⟨rfl,k⟩:=ad5 o o' _ _ ha hb h;exact ⟨rfl,k⟩
  |_=>simp [oz] at h
 |.app p s ts,b,r,r',ha,hb,h=>by
  cases b with
  |app p' s' ts'=>
   simp only [ZH,A5] at ha hb;simp only [oz,E3,B9,E2,Dg,L4] at h;obtain ⟨⟨rfl,rfl⟩,k⟩:=JJ ha.1.1 ha.1.2 hb.1.1 hb.1.2 h;obtain ⟨rfl,k2⟩:=Qw ts ts' _ _ ha.2 hb.2 k;exact ⟨rfl,k2⟩
  |_=>simp [oz] at h
theorem Qw:∀(a b:List Tm) (r r':Bs),TI a=true->TI b=true->zo a++41::r=zo b++41::r'->a=b/\r=r'
 |[],[],r,r',_,_,h=>by simpa [zo] using h
 |[],y::b,r,r',_,_,h=>by obtain ⟨c,l,h1,h2⟩:=P9 y;simp only [zo,h1,E2,E3,Dg] at h;exact absurd h.1.symm h2
 |x::a,[],r,r',_,_,h=>by obtain ⟨c,l,h1,h2⟩:=P9 x;simp only [zo,h1,E2,E3,Dg] at h;exact absurd h.1 h2
 |x::a,y::b,r,r',ha,hb,h=>by simp only [TI,A5] at ha hb;simp only [zo,B9] at h;obtain ⟨rfl,k⟩:=Vj x y _ _ ha.1 hb.1 h;obtain ⟨rfl,k2⟩:=Qw a b _ _ ha.2 hb.2 k;exact ⟨rfl,k2⟩
end
theorem key_inj {a b:Tm} (ha:ZH a=true) (hb:ZH b=true) (h:oz a=oz b):a=b:=
 (Vj a b [] [] ha hb (by simpa using h)).1
end Go.Ey.Pr
namespace Go.Proofs
open Shelf RowKit Ey Ey.Pr
theorem Tryz.aoq (B b:Nat) (bs:List Value) (c:Int) (w:World) (h:Lib.IsBuilderF 193 5 B b bs w) (hlen:bs.length+1<=140737488355328) (hBw:B<=w.heap.size):
  Calls Tryz.prog 195 #[.pointer (some ⟨b,0,none⟩),.int .u8 c] w fun e w'=>e=.returned .nilIface/\(Lib.BuilderAtF 193 5 B b (.pointer (some ⟨b,0,none⟩)) (bs++[.int .u8 c]) w'/\Below B w w'/\Lib.OthersKept 5 (some b) w w'):=Any.Builder_WriteByte_k Tryz.aim Tryz.Ov B b bs c w h hlen hBw
theorem Tryz.aj2 (B b:Nat) (bs:List Value) (s:ByteArray) (w:World) (h:Lib.IsBuilderF 193 5 B b bs w) (hlen:bs.length+s.size<=140737488355328) (hBw:B<=w.heap.size):
  Calls Tryz.prog 233 #[.pointer (some ⟨b,0,none⟩),.string s] w fun e w'=>e=.returned (.tuple #[.int .i64 s.size,.nilIface])/\(Lib.BuilderAtF 193 5 B b (.pointer (some ⟨b,0,none⟩)) (bs++Lib.strCells s) w'/\Below B w w'/\Lib.OthersKept 5 (some b) w w'):=Any.Builder_WriteString_k Tryz.aij Tryz.Ov B b bs s w h hlen hBw
theorem Tryz.ain (B b:Nat) (l:List UInt8) (w:World) (h:Lib.IsBuilderF 193 5 B b (Lib.byteCells l) w) (hBw:B<=w.heap.size):
  Calls Tryz.prog 164 #[.pointer (some ⟨b,0,none⟩)] w fun e w'=>e=.returned (.string ⟨l.toArray⟩)/\Below B w w':=
 (Any.Builder_String_any_f Tryz.agw Tryz.Ov B b l w h hBw).mono fun e w' h=>⟨h.1,h.2.2⟩
structure KP (B b:Nat) (w w':World):Prop where
 Ao:Below B w w'
 fJ:Lib.OthersKept 5 (some b) w w'
theorem KP.trans {B b:Nat} {w w' w'':World} (h:KP B b w w') (k:KP B b w' w''):KP B b w w'':=⟨h.Ao.trans k.Ao,h.fJ.trans k.fJ⟩
theorem KP.size {B b:Nat} {w w':World} (h:KP B b w w'):w.heap.size<=w'.heap.size:=h.Ao.size
theorem KP.of {B b:Nat} {w w':World} (hB:B<=w.heap.size) (h:Below w.heap.size w w'):KP B b w w':=
 ⟨h.mono hB,(Lib.OthersKept.refl 5 (some b) w).below h⟩
theorem KP.alloc {B b:Nat} {w:World} (hB:B<=w.heap.size) (o:Go.Obj):KP B b w (w.alloc o):=KP.of hB ((Below.refl _ w).alloc (An _) _)
theorem KP.cell {B b T:Nat} {w w':World} (h:KP B b w w') {k:Nat} {vs:Array Value} {fz:Nat×Nat} (hk:w.heap[k]?=some (.cells vs T fz)) (hb:k≠b) (hT:T≠5) (j:Nat):w'.cell? ⟨k,j,none⟩=w.cell? ⟨k,j,none⟩:=by
 have h1:=h.fJ k _ hk (by simpa using hb) (fun c nG e=>by injection e with _ e2 _;exact hT e2)
 simp only [World.cell?,h1,hk]
theorem afU {T e:TypeId} {B b:Nat} {p:Value} {bs:List Value} {w:World} (h:Lib.BuilderAtF T e B b p bs w):b < w.heap.size:=by obtain ⟨_,v,hb,_⟩:=h;exact (Bk.1 hb).1
theorem zL {T e:TypeId} {B b:Nat} {bs:List Value} {w:World} (h:Lib.IsBuilderF T e B b bs w):b < w.heap.size:=h.elim afU afU
theorem Xf {w w':World} {B e size n:Nat} {v:Value} {xs:List Value} (h:w.ownsRowF B e size v n xs) (hb:Below w.heap.size w w'):w'.ownsRowF B e size v n xs:=by
 refine ⟨h.1,?_⟩;rcases h.2 with hn|⟨g,cap,cur,fz,rfl,hg,hgg,rest⟩
 ·exact .inl hn
 ·exact .inr ⟨g,cap,cur,fz,rfl,hg,by rw [hb.block g (Bk.1 hgg).1];exact hgg,rest⟩
theorem NU {T e:TypeId} {B b:Nat} {p:Value} {bs:List Value} {w w':World} (h:Lib.BuilderAtF T e B b p bs w) (hb:Below w.heap.size w w'):Lib.BuilderAtF T e B b p bs w':=by obtain ⟨h1,v,h2,h3,h4⟩:=h;exact ⟨h1,v,by rw [hb.block b (Bk.1 h2).1];exact h2,Xf h3 hb,h4⟩
theorem Yh {T e:TypeId} {B b:Nat} {bs:List Value} {w w':World} (h:Lib.IsBuilderF T e B b bs w) (hb:Below w.heap.size w w'):Lib.IsBuilderF T e B b bs w':=
 h.elim (fun h=> .inl (NU h hb)) (fun h=> .inr (NU h hb))
def OJ (s:ByteArray):Prop:=s.size<=200/\∀T:Lib.PrintTabs,strOfNums (Lib.quoteZ T s)=⟨(qB s).toArray⟩
theorem jh {s:ByteArray} (h:OJ s):(qB s).length<=202:=by
 have:=h.1
 simp only [qB,C5,Ax,G3];have:s.data.toList.length=s.size:=rfl
 omega
theorem abp (l m:List UInt8):Lib.byteCells l++Lib.strCells ⟨m.toArray⟩=Lib.byteCells (l++m):=by rw [Lib.strCells_eq];simp [Lib.byteCells]
theorem cells_one (l:List UInt8) (c:UInt8):Lib.byteCells l++[.int .u8 c.toNat]=Lib.byteCells (l++[c]):=by simp [Lib.byteCells]
theorem Qe (l:List UInt8):(Lib.byteCells l).length=l.length:=by simp [Lib.byteCells]
def BK (B b:Nat) (l:List UInt8) (w:World):Prop:=Lib.IsBuilderF 193 5 B b (Lib.byteCells l) w/\B<=w.heap.size/\C8 B w
theorem BK.keep {B b:Nat} {l:List UInt8} {w w':World} (h:BK B b l w) (hb:Below w.heap.size w w'):BK B b l w':=
 ⟨Yh h.1 hb,E1 h.2.1 hb.size,h.2.2.keep (hb.mono h.2.1)⟩
theorem Tryz.Aq (B b:Nat) (l:List UInt8) (c:UInt8) (w:World) (h:BK B b l w) (hl:l.length<=100000000):
  Calls Tryz.prog 195 #[.pointer (some ⟨b,0,none⟩),.int .u8 c.toNat] w fun e w'=>e=.returned .nilIface/\BK B b (l++[c]) w'/\KP B b w w':=by
 refine (Tryz.aoq B b _ _ w h.1 (by rw [Qe];omega) h.2.1).mono ?_
 rintro e w' ⟨rfl,h1,h2,h3⟩;rw [cells_one] at h1;exact ⟨rfl,⟨.inr h1,E1 h.2.1 h2.size,h.2.2.keep h2⟩,h2,h3⟩
theorem Tryz.RV (B b:Nat) (l m:List UInt8) (w:World) (h:BK B b l w) (hl:l.length<=100000000) (hm:m.length<=100000000):
  Calls Tryz.prog 233 #[.pointer (some ⟨b,0,none⟩),.string ⟨m.toArray⟩] w fun e w'=>(∃n,e=.returned (.tuple #[.int .i64 n,.nilIface]))/\BK B b (l++m) w'/\KP B b w w':=by
 refine (Tryz.aj2 B b _ _ w h.1 (by rw [Qe];show _+m.toArray.size<=_;simp;omega) h.2.1).mono ?_
 rintro e w' ⟨rfl,h1,h2,h3⟩;rw [abp] at h1;exact ⟨⟨_,rfl⟩,⟨.inr h1,E1 h.2.1 h2.size,h.2.2.keep h2⟩,h2,h3⟩
theorem Tryz.XQ (B b:Nat) (l:List UInt8) (s:ByteArray) (w:World) (h:BK B b l w) (hs:OJ s):
  Calls Tryz.prog 234 #[.string s] w fun e w'=>e=.returned (.string ⟨(qB s).toArray⟩)/\BK B b l w'/\KP B b w w':=by
 refine (Tryz.ak7 s w (by have:=hs.1;omega) h.2.2.now).mono ?_
 rintro e w' ⟨T,rfl,h1⟩;rw [hs.2 T];exact ⟨rfl,h.keep h1,KP.of h.2.1 h1⟩
theorem Tryz.Qs (B b:Nat) (l:List UInt8) (p s:ByteArray) (w:World) (h:BK B b l w) (hl:l.length<=10000000) (hp:OJ p) (hs:OJ s):
  Calls Tryz.prog 196 #[.pointer (some ⟨b,0,none⟩),.agg #[.string p,.string s]] w fun e w'=>e=.returned (.tuple #[])/\BK B b (l++oL p s) w'/\KP B b w w':=by
 have h3:=jh hp;have h4:=jh hs;have hb:=zL h.1;obtain ⟨w1,hw1⟩:∃w1,w1=w.alloc (.cells #[.string p,.string s] 35):=⟨_,rfl⟩;have bf:Below w.heap.size w w1:=by rw [hw1];exact (Below.refl _ w).alloc (An _) _
 have hn:w1.heap[w.heap.size]?=some (.cells #[.string p,.string s] 35):=by
  rw [hw1];show (w.heap.push _)[w.heap.size]?=_
  simp
 have k1:=KP.of (b:=b) h.2.1 bf;have h5:=h.keep bf;go_enter Tryz.func196,Tryz.ntmps196;go_wp2_with (go_at_call 234;rw [<-hw1];refine (Tryz.XQ B b l p w1 h5 hp).mono ?_);rintro e w2 ⟨rfl,h6,k2⟩;go_wp2_with (go_at_call 233;refine (Tryz.RV B b _ _ w2 h6 (by omega) (by omega)).mono ?_)
 rintro e w3 ⟨⟨n3,rfl⟩,h7,k3⟩;have hc3:w3.cell? ⟨w.heap.size,1,none⟩=some (.string s):=by
  rw [(k2.trans k3).cell hn (by omega) (by decide) 1]
  simp only [World.cell?,hn];rfl
 go_wp2_with (go_at_call 234;refine (Tryz.XQ B b _ s w3 h7 hs).mono ?_);rintro e w4 ⟨rfl,h8,k4⟩;go_wp2_with (go_at_call 233;refine (Tryz.RV B b _ _ w4 h8 (by simp;omega) (by omega)).mono ?_)
 rintro e w5 ⟨⟨n5,rfl⟩,h9,k5⟩;go_wp2;go_end0;refine ⟨rfl,?_,(k1.trans (k2.trans k3)).trans (k4.trans k5)⟩;rw [oL,<-List.append_assoc];exact h9
def O6:Ob->Prop
 |.num n d=>n.size<=200/\d.size<=200
 |.sy p s=>OJ p/\OJ s
 |.st t=>OJ t
 |.cons a b=>O6 a/\O6 b
abbrev RB (w:World) (B:Nat):=bJ w (fun k _=>k < B)
theorem RB.keep {B:Nat} {w w':World} (h:Below B w w'):∀{c:C} {u:Value},RB w B c u->RB w' B c u:=fun {c u} hr=>
 bJ.mono (fun k o v hc hk=>⟨by rw [h.cell hk];exact hc,hk⟩) c u hr
theorem RBs.keep {B:Nat} {w w':World} (h:Below B w w') {cs:List C} {us:List Value} (hr:av (RB w B) cs us):av (RB w' B) cs us:=hr.mono fun _ _ h1=>RB.keep h h1
theorem RB.s {w:World} {B:Nat} {s:ByteArray} {u:Value} (h:RB w B (cs s) u):u=.string s:=h.1
theorem RB.i {w:World} {B:Nat} {n:Int} {u:Value} (h:RB w B (ci n) u):u=.int .i64 n:=h.1
structure Row (w:World) (B k o:Nat) (us:List Value):Prop where
 cell:∀j u,us[j]?=some u->w.cell? ⟨k,o+j,none⟩=some u
 lt:us≠[]->k < B
theorem Row.keep {w w':World} {B k o:Nat} {us:List Value} (h:Row w B k o us) (hb:Below B w w'):Row w' B k o us:=by
 refine ⟨fun j u hj=>?_,h.lt⟩
 have:us≠[]:=by rintro rfl;simp at hj
 rw [hb.cell (h.lt this)];exact h.cell j u hj
theorem Oa {w:World} {B k:Nat}:∀{cs:List C} {o:Nat},fo w (fun k _=>k < B) cs k o->∃us:List Value,av (RB w B) cs us/\Row w B k o us
 |[],o,_=>⟨[],trivial,fun j u hj=>by simp at hj,fun h=>absurd rfl h⟩
 |c::cs,o,h=>by
  simp only [fo] at h;obtain ⟨⟨u,h1,h2,h3⟩,h4⟩:=h;obtain ⟨us,h5,h6⟩:=Oa h4;refine ⟨u::us,⟨h3,h5⟩,fun j v hj=>?_,fun _=>h2⟩
  cases j with
  |zero=>simp only [C0,A0] at hj;subst hj;exact h1
  |succ j=>
   rw [show o+(j+1)=o+1+j by omega]
   exact h6.cell j v (by simpa using hj)
theorem Jw {w:World} {B:Nat} {o:Ob} {us:List Value} (h:av (RB w B) (enc o) us):∃(k:Int) (s1 s2 s3 s4 s5:ByteArray) (p:Option Addr) (l c:Nat),us=[.int .i64 k,.string s1,.string s2,.string s3,.string s4,.string s5,.slice p l c]:=by
 have hz:∀{u:Value},RB w B cz u->∃p l c,u=.slice p l c:=fun {u} h=>by rcases h with ⟨rfl,_⟩|⟨a,cap,rfl,_⟩<;>exact ⟨_,_,_,rfl⟩
 cases o with
 |cons a b=>
  match us,h with
  |[u0,u1,u2,u3,u4,u5,u6],⟨q0,q1,q2,q3,q4,q5,q6,_⟩=>
   have e0:=q0.i;have e1:=RB.s q1;have e2:=RB.s q2;have e3:=RB.s q3;have e4:=RB.s q4;have e5:=RB.s q5
   rcases q6 with ⟨rfl,_⟩|⟨a,cap,rfl,_⟩<;>exact ⟨_,_,_,_,_,_,_,_,_,by rw [e0,e1,e2,e3,e4,e5]⟩
 |_=>
  match us,h with
  |[u0,u1,u2,u3,u4,u5,u6],⟨q0,q1,q2,q3,q4,q5,q6,_⟩=>
   have e0:=q0.i;have e1:=RB.s q1;have e2:=RB.s q2;have e3:=RB.s q3;have e4:=RB.s q4;have e5:=RB.s q5
   obtain ⟨p,l,c,e6⟩:=hz q6;exact ⟨_,_,_,_,_,_,_,_,_,by rw [e0,e1,e2,e3,e4,e5,e6]⟩
theorem ahM (n d:ByteArray):(⟨#[110]⟩:ByteArray)++n++⟨#[47]⟩++d++⟨#[32]⟩=⟨(oO (.num n d)).toArray⟩:=by apply ByteArray.ext;simp [oO]
theorem gz {α β:Type} {R:α->β->Prop}:∀{xs bs:List α} {vs:List β},Ey.av R (xs++bs) vs->∃us ws,vs=us++ws/\Ey.av R xs us/\Ey.av R bs ws
 |[],bs,vs,h=>⟨[],vs,rfl,trivial,h⟩
 |a::as',bs,[],h=>h.elim
 |a::as',bs,v::vs,h=>by obtain ⟨us,ws,rfl,h1,h2⟩:=gz h.2;exact ⟨v::us,ws,rfl,⟨h.1,h1⟩,h2⟩
theorem zA:∀{o:Ob},O6 o->(oO o).length<=1000 * Gc o
 |.num n d,h=>by have h1:n.data.toList.length<=200:=h.1;have h2:d.data.toList.length<=200:=h.2;simp only [oO,Gc,C5,Ax,G3];omega
 |.sy p s,h=>by
  have h1:=jh h.1;have h2:=jh h.2
  simp only [oO,oL,Gc,C5,Ax];omega
 |.st t,h=>by
  have h1:=jh (show OJ t from h)
  simp only [oO,Gc,C5];omega
 |.cons a b,h=>by
  have h1:=zA h.1;have h2:=zA h.2
  simp only [oO,Gc,C5,Ax,G3];omega
def Qt (B b:Nat) (o:Ob):Prop:=∀(l:List UInt8) (us:List Value) (w:World),BK B b l w->l.length+1000 * Gc o<=10000000->O6 o->av (RB w B) (enc o) us->
    Calls Tryz.prog 197 #[.pointer (some ⟨b,0,none⟩),.agg us.toArray] w fun e w'=>e=.returned (.tuple #[])/\BK B b (l++oO o) w'/\KP B b w w'
theorem Qt.use {B b:Nat} {o:Ob} (h:Qt B b o) {l:List UInt8} {us:List Value} {w:World} (h1:BK B b l w) (h2:l.length+1000 * Gc o<=10000000) (h3:O6 o) (h4:av (RB w B) (enc o) us):
  Calls Tryz.prog 197 #[.pointer (some ⟨b,0,none⟩),.agg us.toArray] w fun e w'=>e=.returned (.tuple #[])/\BK B b (l++oO o) w'/\KP B b w w':=h l us w h1 h2 h3 h4
theorem Tryz.anp (B b:Nat) (a c:Ob) (ia:Qt B b a) (ic:Qt B b c):Qt B b (.cons a c):=by
  intro l us w h hl hq hu;simp only [Gc] at hl
  match us,hu with
  |[u0,u1,u2,u3,u4,u5,u6],⟨q0,q1,q2,q3,q4,q5,q6,_⟩=>
   obtain rfl:=q0.i;have hb:=zL h.1;rcases q6 with ⟨_,h0,_⟩|⟨ad,cap,rfl,hcap,hsp,hcells⟩
   ·cases h0
   obtain ⟨bk,of,sp⟩:=ad;have Tk:sp=none:=hsp (by intro e;have:=E6 List.length e;simp [bF] at this)
   subst Tk;obtain ⟨vs,hv1,hv2⟩:=Oa hcells;clear hcells hsp hu q1 q2 q3 q4 q5 q0;obtain ⟨w1,hw1⟩:∃w1,w1=w.alloc (.cells #[.int .i64 4,u1,u2,u3,u4,u5,.slice (some ⟨bk,of,none⟩) 2 cap] 42):=⟨_,rfl⟩;have bf:Below w.heap.size w w1:=by rw [hw1];exact (Below.refl _ w).alloc (An _) _
   have hn:w1.heap[w.heap.size]?=some (.cells #[.int .i64 4,u1,u2,u3,u4,u5,.slice (some ⟨bk,of,none⟩) 2 cap] 42):=by
    rw [hw1];show (w.heap.push _)[w.heap.size]?=_
    simp
   have k1:=KP.of (b:=b) h.2.1 bf;have h5:=h.keep bf;go_enter Tryz.func197,Tryz.ntmps197;have c1:=Tryz.Aq B b l 91 w1 h5 (by omega)
   go_wp2_with (go_at_call 195;rw [<-hw1];refine c1.mono ?_);rintro e w2 rfl h6 k2;rw [<-hw1] at k2;have hc3:w2.cell? ⟨w.heap.size,6,none⟩=some (.slice (some ⟨bk,of,none⟩) 2 cap):=by rw [k2.cell hn (by omega) (by decide) 6];simp only [World.cell?,hn];rfl
   obtain ⟨ua,uc,rfl,hua,huc⟩:∃ua uc,vs=ua++uc/\av (RB w B) (enc a) ua/\av (RB w B) (enc c) uc:=gz hv1;obtain ⟨x0,x1,x2,x3,x4,x5,xp,xl,xc,rfl⟩:=Jw hua;obtain ⟨y0,y1,y2,y3,y4,y5,yp,yl,yc,rfl⟩:=Jw huc;clear hv1;have r2:=hv2.keep (k1.trans k2).Ao;have f0:w2.cell? ⟨bk,of,none⟩=some (.int .i64 x0):=r2.cell 0 _ rfl;have f1:w2.cell? ⟨bk,of+1,none⟩=some (.string x1):=r2.cell 1 _ rfl;have f2:w2.cell? ⟨bk,of+2,none⟩=some (.string x2):=r2.cell 2 _ rfl;have f3:w2.cell? ⟨bk,of+3,none⟩=some (.string x3):=r2.cell 3 _ rfl;have f4:w2.cell? ⟨bk,of+4,none⟩=some (.string x4):=r2.cell 4 _ rfl;have f5:w2.cell? ⟨bk,of+5,none⟩=some (.string x5):=r2.cell 5 _ rfl;have f6:w2.cell? ⟨bk,of+6,none⟩=some (.slice xp xl xc):=r2.cell 6 _ rfl;go_wp2;refine wp_loop_rounds 3 ?_;rw [rounds_succ];obtain ⟨w3,hw3⟩:∃w3,w3=w2.alloc (.cells #[.int .i64 x0,.string x1,.string x2,.string x3,.string x4,.string x5,.slice xp xl xc] 42):=⟨_,rfl⟩;have bf3:Below w2.heap.size w2 w3:=by rw [hw3];exact (Below.refl _ w2).alloc (An _) _
   have h63:=h6.keep bf3;have k3:=KP.of (b:=b) h6.2.1 bf3;have c2:=ia.use h63 (by simp;omega) hq.1 (hua.mono fun _ _ h=>RB.keep ((k1.trans k2).trans k3).Ao h)
   go_wp2_with (go_at_call 197;rw [<-hw3];refine c2.mono ?_);rintro e w4 ⟨rfl,h7,k4⟩;have k14:=((k1.trans k2).trans k3).trans k4;have r4:=hv2.keep k14.Ao;have g0:w4.cell? ⟨bk,of+7,none⟩=some (.int .i64 y0):=r4.cell 7 _ rfl;have g1:w4.cell? ⟨bk,of+8,none⟩=some (.string y1):=r4.cell 8 _ rfl;have g2:w4.cell? ⟨bk,of+9,none⟩=some (.string y2):=r4.cell 9 _ rfl;have g3:w4.cell? ⟨bk,of+10,none⟩=some (.string y3):=r4.cell 10 _ rfl;have g4:w4.cell? ⟨bk,of+11,none⟩=some (.string y4):=r4.cell 11 _ rfl;have g5:w4.cell? ⟨bk,of+12,none⟩=some (.string y5):=r4.cell 12 _ rfl;have g6:w4.cell? ⟨bk,of+13,none⟩=some (.slice yp yl yc):=r4.cell 13 _ rfl;go_wp2;rw [rounds_succ];obtain ⟨w5,hw5⟩:∃w5,w5=w4.alloc (.cells #[.int .i64 y0,.string y1,.string y2,.string y3,.string y4,.string y5,.slice yp yl yc] 42):=⟨_,rfl⟩;have bf5:Below w4.heap.size w4 w5:=by rw [hw5];exact (Below.refl _ w4).alloc (An _) _
   have h75:=h7.keep bf5;have k5:=KP.of (b:=b) h7.2.1 bf5;have hka:=zA hq.1;have c3:=ic.use h75 (by simp;omega) hq.2 (huc.mono fun _ _ h=>RB.keep (k14.trans k5).Ao h)
   go_wp2_with (go_at_call 197;rw [<-hw5];refine c3.mono ?_);rintro e w6 ⟨rfl,h8,k6⟩;go_wp2;rw [rounds_succ];have hkc:=zA hq.2;have c4:=Tryz.Aq B b _ 93 w6 h8 (by simp;omega)
   go_wp2_with (go_at_call 195;refine c4.mono ?_);rintro e w7 ⟨rfl,h9,k7⟩;go_wp2;go_end0;refine ⟨rfl,?_,k14.trans ((k5.trans k6).trans k7)⟩;simpa [oO] using h9
theorem Tryz.akp (B b:Nat):∀(o:Ob),Qt B b o
 |.num n d=>by
  intro l us w h hl hq hu;simp only [Gc] at hl
  match us,hu with
  |[u0,u1,u2,u3,u4,u5,u6],⟨q0,q1,q2,q3,q4,q5,q6,_⟩=>
   obtain rfl:=q0.i;obtain rfl:=RB.s q1;obtain rfl:=RB.s q2;have hb:=zL h.1;obtain ⟨w1,hw1⟩:∃w1,w1=w.alloc (.cells #[.int .i64 1,.string n,.string d,u3,u4,u5,u6] 42):=⟨_,rfl⟩;have bf:Below w.heap.size w w1:=by rw [hw1];exact (Below.refl _ w).alloc (An _) _
   have k1:=KP.of (b:=b) h.2.1 bf;have h5:=h.keep bf;go_enter Tryz.func197,Tryz.ntmps197;have a1:n.size<=200:=hq.1;have a2:d.size<=200:=hq.2;go_wp2_with fail
   all_goals (first|(exfalso;simp only [ByteArray.size_append] at *;omega)|skip)
   rw [<-hw1,ahM];refine (Tryz.RV B b l _ w1 h5 (by omega) (by simp [oO];have e1:n.data.size=n.size:=rfl;have e2:d.data.size=d.size:=rfl;omega)).mono ?_
   rintro e w2 ⟨⟨n3,rfl⟩,h6,k2⟩;go_wp2;go_end0;exact ⟨rfl,h6,k1.trans k2⟩
 |.sy p s=>by
  intro l us w h hl hq hu;simp only [Gc] at hl
  match us,hu with
  |[u0,u1,u2,u3,u4,u5,u6],⟨q0,q1,q2,q3,q4,q5,q6,_⟩=>
   obtain rfl:=q0.i;obtain rfl:=RB.s q3;obtain rfl:=RB.s q4;have hb:=zL h.1;obtain ⟨w1,hw1⟩:∃w1,w1=w.alloc (.cells #[.int .i64 2,u1,u2,.string p,.string s,u5,u6] 42):=⟨_,rfl⟩;have bf:Below w.heap.size w w1:=by rw [hw1];exact (Below.refl _ w).alloc (An _) _
   have hn:w1.heap[w.heap.size]?=some (.cells #[.int .i64 2,u1,u2,.string p,.string s,u5,u6] 42):=by
    rw [hw1];show (w.heap.push _)[w.heap.size]?=_
    simp
   have k1:=KP.of (b:=b) h.2.1 bf;have h5:=h.keep bf;go_enter Tryz.func197,Tryz.ntmps197;go_wp2_with (go_at_call 195;rw [<-hw1];refine (Tryz.Aq B b l 115 w1 h5 (by omega)).mono ?_)
   rintro e w2 ⟨rfl,h6,k2⟩;have hc3:w2.cell? ⟨w.heap.size,3,none⟩=some (.string p):=by rw [k2.cell hn (by omega) (by decide) 3];simp only [World.cell?,hn];rfl
   have hc4:w2.cell? ⟨w.heap.size,4,none⟩=some (.string s):=by rw [k2.cell hn (by omega) (by decide) 4];simp only [World.cell?,hn];rfl
   go_wp2_with (go_at_call 196;refine (Tryz.Qs B b _ p s w2 h6 (by simp;omega) hq.1 hq.2).mono ?_)
   rintro e w3 ⟨rfl,h7,k3⟩;go_wp2;go_end0;refine ⟨rfl,?_,k1.trans (k2.trans k3)⟩;simpa [oO] using h7
 |.st t=>by
  intro l us w h hl hq hu;simp only [Gc] at hl
  match us,hu with
  |[u0,u1,u2,u3,u4,u5,u6],⟨q0,q1,q2,q3,q4,q5,q6,_⟩=>
   obtain rfl:=q0.i;obtain rfl:=RB.s q5;have hb:=zL h.1;have h9:=jh (show OJ t from hq)
   obtain ⟨w1,hw1⟩:∃w1,w1=w.alloc (.cells #[.int .i64 3,u1,u2,u3,u4,.string t,u6] 42):=⟨_,rfl⟩;have bf:Below w.heap.size w w1:=by rw [hw1];exact (Below.refl _ w).alloc (An _) _
   have hn:w1.heap[w.heap.size]?=some (.cells #[.int .i64 3,u1,u2,u3,u4,.string t,u6] 42):=by
    rw [hw1];show (w.heap.push _)[w.heap.size]?=_
    simp
   have k1:=KP.of (b:=b) h.2.1 bf;have h5:=h.keep bf;go_enter Tryz.func197,Tryz.ntmps197;go_wp2_with (go_at_call 195;rw [<-hw1];refine (Tryz.Aq B b l 116 w1 h5 (by omega)).mono ?_)
   rintro e w2 ⟨rfl,h6,k2⟩;have hc3:w2.cell? ⟨w.heap.size,5,none⟩=some (.string t):=by rw [k2.cell hn (by omega) (by decide) 5];simp only [World.cell?,hn];rfl
   go_wp2_with (go_at_call 234;refine (Tryz.XQ B b _ t w2 h6 hq).mono ?_);rintro e w3 ⟨rfl,h7,k3⟩;go_wp2_with (go_at_call 233;refine (Tryz.RV B b _ _ w3 h7 (by simp;omega) (by omega)).mono ?_)
   rintro e w4 ⟨⟨n3,rfl⟩,h8,k4⟩;go_wp2;go_end0;refine ⟨rfl,?_,k1.trans ((k2.trans k3).trans k4)⟩;simpa [oO] using h8
 |.cons a c=>Tryz.anp B b a c (Tryz.akp B b a) (Tryz.akp B b c)
end Go.Proofs
