/- A part. -/
import Derived.Test.YtpnjgiplhijhpaaGreatDoorRY29
import Derived.Test.YtpnjgiplhijhpaaGreatDoorRY37
import Derived.Test.YtpnjgiplhijhpaaGreatDoorRY38
import Derived.Test.YtpnjgiplhijhpaaGreatDoorRY39
import Derived.Test.YtpnjgiplhijhpaaGreatDoorRY40
import Derived.Test.YtpnjgiplhijhpaaGreatDoorRY41
import Derived.Test.YtpnjgiplhijhpaaGreatDoorRCards
import Derived.SevenTiedAt
import Derived.JoinedOf
import Derived.KernelRfl
set_option linter.all false
set_option maxHeartbeats 4000000
namespace Go.Ey.Pr
open Go Go.Ey Go.Ey.Fe Go.RowKit Go.Proofs
set_option maxRecDepth 1000000
theorem aee:Bv Vv OQ 400 29 [.one (ci 48)] [.one cz,.one (cb false)]=true:=by kernel_rfl
def Wx:NT:=(aae++(Zi++(Y0++(aa7++(ZT++aa9)))))++[(29,[.one (ci 48)],[.one cz,.one (cb false)])]
theorem U7:av PP Wx:=(ZY.append (aaf.append (ZZ.append (aaI.append (Y1.append abf))))).append (av.cons (oW Rw aee) av.nil)
theorem TZ:Bv 536870912 Wx 400 15 [] [.one (.slice AXC 48)]=true:=by kernel_rfl
theorem acE:bR PP 15 [] [.one (.slice AXC 48)]:=oW U7 TZ
noncomputable def I8:NT:=(11,[],[.one wlC])::(15,[],[.one (.slice AXC 48)])::Wx
theorem aar:av PP I8:=av.cons Zt (av.cons acE U7)
theorem UK:Bv 536905728 I8 2000 4 [] [.one (cb true)]=true:=by kernel_rfl
theorem ace:bR PP 4 [] [.one (cb true)]:=oW aar UK
def p2 (k:Nat) (f:Nat->Nat->Nat×List V×List V):NT:=(List.range k).flatMap fun i=>(List.range k).map fun j=>f i j
def p1 (k:Nat) (f:Nat->Nat×List V×List V):NT:=(List.range k).map f
def aag:NT:=p2 4 (fun i j=>(33,[.agg (tm i),.agg (tm j)],[.one (cb (i==j))]))++(p2 4 (fun i j=>(35,[.agg (tm i),.agg (tm j)],[.one (cb (i==j))]))++(p1 4 (fun i=>(32,[.agg (tm i)],[.agg (tm (ng i))]))++
 (p1 4 (fun i=>(34,[.agg (tm i)],[.agg (tm (ng i))]))++(p1 2 (fun i=>(8,[.one (cs Ni),.one (.slice (tm i) 1)],[.agg (tm (i+2))]))++[(7,[.one (ci 2)],[.one (.slice (M8 0++M8 1) 2)])]))))
noncomputable def XF (L:NT):Bool:=List.rec (motive:=fun _=>Bool) true (fun e _ ih=>cond (Bv 0 [] 300 e.1 e.2.1 e.2.2) ih false) L
theorem La:∀{L:NT},XF L=true->av PP L
 |[],_=>av.nil
 |(f,vs,rs)::L,h=>by
  have h2:cond (Bv 0 [] 300 f vs rs) (XF L) false=true:=h;cases h3:Bv 0 [] 300 f vs rs with
  |false=>rw [h3] at h2;cases h2
  |true=>rw [h3] at h2;exact av.cons (oW av.nil h3) (La h2)
theorem SQ:XF aag=true:=by kernel_rfl
def UU:NT:=(4,[],[.one (cb true)])::aag
theorem aas:av PP UU:=av.cons ace (La SQ)
def asked (L:NT) (M:NT):Bool:=L.all fun e=>YR (zZ IL M e.1 e.2.1) e.2.2
theorem lM {L M:NT} (h:asked L M=true) {f:Nat} {vs rs:List V} (hm:(f,vs,rs)∈L):zZ IL M f vs=some rs:=DX (List.all_eq_true.1 h _ hm)
theorem Oo {k i j:Nat} {f:Nat->Nat->Nat×List V×List V} (hi:i < k) (hj:j < k):f i j∈p2 k f:=List.mem_flatMap.2 ⟨i,List.mem_range.2 hi,List.mem_map.2 ⟨j,List.mem_range.2 hj,rfl⟩⟩
theorem Jq {k i:Nat} {f:Nat->Nat×List V×List V} (hi:i < k):f i∈p1 k f:=List.mem_map.2 ⟨i,List.mem_range.2 hi,rfl⟩
theorem oU:asked UU UU=true:=by kernel_rfl
theorem ab1:Ja (zZ IL UU) where
 t4:=lM oU List.mem_cons_self
 e51 i j hi hj:=lM oU (List.mem_cons_of_mem _ (List.mem_append_left _ (Oo (f:=fun i j=>(33,[.agg (tm i),.agg (tm j)],[.one (cb (i==j))])) hi hj)))
 e24 i j hi hj:=lM oU (List.mem_cons_of_mem _ (List.mem_append_right _ (List.mem_append_left _ (Oo (f:=fun i j=>(35,[.agg (tm i),.agg (tm j)],[.one (cb (i==j))])) hi hj))))
 n50 i hi:=lM oU (List.mem_cons_of_mem _ (List.mem_append_right _ (List.mem_append_right _ (List.mem_append_left _ (Jq (f:=fun i=>(32,[.agg (tm i)],[.agg (tm (ng i))])) hi)))))
 n52 i hi:=lM oU (List.mem_cons_of_mem _ (List.mem_append_right _ (List.mem_append_right _ (List.mem_append_right _ (List.mem_append_left _ (Jq (f:=fun i=>(34,[.agg (tm i)],[.agg (tm (ng i))])) hi))))))
 l12 i hi:=lM oU (List.mem_cons_of_mem _ (List.mem_append_right _ (List.mem_append_right _ (List.mem_append_right _ (List.mem_append_right _ (List.mem_append_left _ (Jq (f:=fun i=>(8,[.one (cs Ni),.one (.slice (tm i) 1)],[.agg (tm (i+2))])) hi)))))))
 v11:=lM oU (List.mem_cons_of_mem _ (List.mem_append_right _ (List.mem_append_right _ (List.mem_append_right _ (List.mem_append_right _ (List.mem_append_right _ (List.mem_singleton.2 rfl)))))))
theorem ach (l:List (List Int)):bR PP 3 [.one (rows yF l)] [.one (cb true)]:=(Rz aas).fn (by kernel_rfl) (x4 ab1 l)
end Go.Ey.Pr
namespace Go.Proofs.YtpnjgiplhijhpaaGreatDoorR.Aj
open Go.Proofs.YtpnjgiplhijhpaaGreatDoorR
open Go
set_option linter.unusedVariables false
theorem bJ:Tryz.prog.closure 3=[3,4,7,16,6,11,20,37,38,36,81,82,151,229,230,152,231,232,298,359,233,234,235,236,237,238,299,360,300,301,361,362,363,302,239,83,153,154,240,87,14,155,158,241,156,84,157,21,39,85,86,79,41,40,42,88,159,242,303,160,161,243,304,162,244,305,163,164,165,166,245,306,307,308,364,410,268,330,387,439,440,427,488,489,441,442,490,491,510,511,409,247,246,309,365,248,310,90,311,368,369,78,366,367,411,459,460,461,498,462,463,499,464,465,500,412,466,502,512,501,467,468,503,513,514,515,516,469,251,313,167,17,89,168,249,312,169,250,170,43,22,44,12,23,29,67,142,214,280,144,216,283,340,217,284,143,215,281,282,66,141,211,277,212,278,213,279,336,397,337,338,339,398,68,70,69,145,146,218,147,285,341,342,399,447,400,495,401,448,477,402,343,390,388,443,492,344,403,138,209,122,193,261,194,262,263,318,377,430,319,378,320,379,380,324,384,436,482,483,437,484,508,485,486,509,487,385,431,325,479,328,478,433,329,389,381,432,264,345,347,346,404,449,496,450,405,452,451,453,455,497,454,457,456,406,458,219,220,221,269,286,287,348,288,207,349,289,71,148,149,72,150,222,208,76,109,93,100,175,174,223,290,291,350,292,293,294,224,226,225,295,351,96,296,352,407,227,297,353,354,408,355,356,357,125,200,199,358,108,182,254,178,314,45,91,92,172,171,315,272,198,334,326,386,438,327,396,267,201,370,371,276,413,470,504,372,124,197,266,373,414,415,323,416,417,228,105,95,27,62,135,63,136,64,137,139,210,140,46,94,75,47,97,48,49,99,98,173,51,101,176,253,252,50,60,134,103,177,33,77,25,61,32,74,52,102,53,104,24,54,106,179,55,107,180,181,56,9,18,30,73,31,110,111,57,112,184,183,113,185,115,188,186,255,187,256,191,260,257,119,190,114,116,117,189,258,259,120,316,375,426,374,418,419,471,420,472,473,421,474,475,505,422,423,424,425,317,376,428,429,476,506,118,121,192,58,123,195,196,265,321,202,270,331,391,392,444,493,271,332,333,393,394,445,494,395,446,273,335,274,126,128,203,275,322,382,434,383,435,480,481,507,517,127,129,59,131,205,206,132,133,130,204,26,13,28,65,15,5,8,10,19,34,35,80]:=by kernel_rfl
abbrev c:OpenClaim:=Rows.kernelTreeRow
abbrev s:ChangeSpec:=Rows.kernelTreeSpec
theorem unf:Tryz.prog.unfollowed 3=true:=by unfold Program.unfollowed;rw [bJ];kernel_rfl
theorem inp:Tryz.prog.inPlace 3=["internal/bytealg.CountString", "internal/bytealg.IndexByteString", "internal/bytealg.IndexString", "internal/abi.NoEscape", "internal/bytealg.abigen_runtime_cmpstring"]:=by unfold Program.inPlace;rw [bJ];kernel_rfl
theorem recs:Tryz.prog.recurses 3=true:=by unfold Program.recurses;rw [unf];rfl
theorem vars:Tryz.prog.varsNamed 3=["internal/strconv.uint64pow10", "math/bits.deBruijn32tab", "math/bits.deBruijn64tab", "strings.asciiSpace", "unicode/utf8.first", "unicode/utf8.acceptRanges", "unicode.White_Space", "internal/bytealg.MaxLen", "strconv.ErrSyntax", "strconv.ErrRange"]:=by unfold Program.varsNamed;rw [bJ];kernel_rfl
theorem named:Tryz.prog.funcNamed "lispprover/lispproverlaw22.KernelTree"=some 3:=by kernel_rfl
theorem acW:Tryz.prog.goes 3=false:=by unfold Program.goes;rw [bJ,unf];kernel_rfl
theorem goesBy:c.goesBy Tryz.prog=false:=by
 unfold OpenClaim.goesBy Program.goesAt Program.goesFrom;show ((Tryz.prog.funcNamed "lispprover/lispproverlaw22.KernelTree").any Tryz.prog.goes||false)=false
 rw [named,Option.any_some,acW];rfl
theorem closed:joinedFacts Tryz.prog 3 Tryz.f3 s c=true:=by
 unfold joinedFacts;rw [inp,unf,recs,vars];simp only [Bool.and_eq_true];refine ⟨⟨⟨⟨⟨⟨⟨⟨⟨⟨⟨⟨⟨⟨⟨⟨⟨⟨⟨⟨⟨⟨⟨⟨⟨⟨⟨⟨⟨⟨⟨?_,?_⟩,?_⟩,?_⟩,?_⟩,?_⟩,?_⟩,?_⟩,?_⟩,?_⟩,?_⟩,?_⟩,?_⟩,?_⟩,?_⟩,?_⟩,?_⟩,?_⟩,?_⟩,?_⟩,?_⟩,?_⟩,?_⟩,?_⟩,?_⟩,?_⟩,?_⟩,?_⟩,?_⟩,?_⟩,?_⟩,?_⟩
 all_goals kernel_rfl
end Go.Proofs.YtpnjgiplhijhpaaGreatDoorR.Aj
