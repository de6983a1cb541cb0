/- A part of the proof. -/
import Derived.Test.YtpginbppmgdndaaGreatDoorV27
set_option linter.all false
set_option maxHeartbeats 4000000
namespace Go.Ey.Pr
open Go.Ey Go.Ey.Seat
section
variable {nat:Nat→List V→Option (List V)}
def cs (b:ByteArray):C:=.lit (.string b)
def ci (n:Int):C:=.lit (.int .i64 n)
def cb (b:Bool):C:=.lit (.bool b)
def ce:C:=cs ⟨#[]⟩
def cz:C:=.slice [] 0
inductive Ob where
 |num (n d:ByteArray)
 |sy (p s:ByteArray)
 |st (t:ByteArray)
 |cons (a b:Ob)
def enc:Ob→List C
 |.num n d=>[ci 1,cs n,cs d,ce,ce,ce,cz]
 |.sy p s=>[ci 2,ce,ce,cs p,cs s,ce,cz]
 |.st t=>[ci 3,ce,ce,ce,ce,cs t,cz]
 |.cons a b=>[ci 4,ce,ce,ce,ce,ce,.slice (enc a++enc b) 2]
theorem enc_len (o:Ob):(enc o).length=7:=by cases o<;>rfl
def rows {α:Type} (f:α→List C) (l:List α):C:=.slice (l.flatMap f) l.length
theorem flat_len {α:Type} {f:α→List C} {e:Nat} (hf:∀x,(f x).length=e):∀l:List α,(l.flatMap f).length=l.length * e
 |[]=>by simp
 |x::l=>by rw [List.flatMap_cons,List.length_append,hf,flat_len hf l,List.length_cons,Nat.succ_mul];omega
theorem flat_drop {α:Type} {f:α→List C} {e:Nat} (hf:∀x,(f x).length=e):∀(k:Nat) (l:List α),(l.flatMap f).drop (k * e)=(l.drop k).flatMap f
 |0,l=>by simp
 |k+1,[]=>by simp
 |k+1,x::l=>by
  rw [List.flatMap_cons,Nat.succ_mul,Nat.add_comm,←List.drop_drop,List.drop_left' (hf x),flat_drop hf k l,List.drop_succ_cons]
theorem flat_take {α:Type} {f:α→List C} {e:Nat} (hf:∀x,(f x).length=e):∀(k:Nat) (l:List α),(l.flatMap f).take (k * e)=(l.take k).flatMap f
 |0,l=>by simp
 |k+1,[]=>by simp
 |k+1,x::l=>by
  rw [List.flatMap_cons,Nat.succ_mul,Nat.add_comm,List.take_add,List.take_left' (hf x),List.drop_left' (hf x),flat_take hf k l,List.take_succ_cons,List.flatMap_cons]
theorem row_at {α:Type} {f:α→List C} {e:Nat} (hf:∀x,(f x).length=e) {l:List α} {k:Nat} {x:α} (h:l[k]?=some x):rowC e (rows f l) (ci k)=some (f x):=by
 have hk:k < l.length:=(List.getElem?_eq_some_iff.1 h).1
 have h1:(k+1) * e≤(l.flatMap f).length:=by rw [flat_len hf];exact Nat.mul_le_mul_right e hk
 simp only [rowC,rows,ci]
 have h2:(0:Int)≤(k:Int)∧(k:Int) < (l.length:Int)∧((k:Int).toNat+1) * e≤(l.flatMap f).length:=by
  refine ⟨by omega,by omega,by simpa using h1⟩
 rw [if_pos h2]
 have h3:l.drop k=x::l.drop (k+1):=by
  rw [List.drop_eq_getElem_cons hk]
  congr 1
  rw [List.getElem?_eq_getElem hk] at h
  injection h
 rw [Int.toNat_natCast,flat_drop hf,h3,List.flatMap_cons,List.take_left' (hf x)]
theorem row_two (a b:List C) (ha:a.length=7) (hb:b.length=7):rowC 7 (.slice (a++b) 2) (ci 0)=some a∧rowC 7 (.slice (a++b) 2) (ci 1)=some b:=by
 constructor
 ·simp [rowC,ci,ha,hb]
 ·simp [rowC,ci,ha,hb]
  exact List.take_of_length_le (by omega)
theorem app_row {α:Type} {f:α→List C} {e bytes:Nat} (hf:∀x,(f x).length=e) (he:0 < e) {l:List α} {x:α} (hb:(l.length+1) * bytes≤roomMax) (hl:l.length+1≤roomMax):appC e bytes (.slice (f x) 1) (rows f l)=some (rows f (l++[x])):=by
 have h1:(f x).length=1 * e:=by rw [hf];omega
 have h2:(l.flatMap f).length=l.length * e:=flat_len hf l
 simp only [appC,rows,srcC]
 rw [if_pos h1]
 simp only [Option.bind_some]
 rw [if_pos ⟨h1,h2,hb,he,hl⟩]
 simp
theorem rows_nil {α:Type} {f:α→List C}:rows f []=cz:=rfl
theorem sub_rows {α:Type} {f:α→List C} {e:Nat} (hf:∀x,(f x).length=e) {l:List α} {k:Nat} (h:k≤l.length):subC e none (some (ci k)) (rows f l)=some (rows f (l.take k)):=by
 simp only [subC,rows,loC,hiC,ci]
 have h1:(0:Int)≤(k:Int):=by omega
 rw [if_pos h1]
 simp only [Option.bind_some,Int.toNat_natCast]
 rw [if_pos ⟨Nat.zero_le _,h⟩]
 simp only [Nat.zero_mul,List.drop_zero,Nat.sub_zero]
 rw [flat_take hf,List.length_take,Nat.min_eq_left h]
theorem wrapS {n:Int} (h1:-9223372036854775808≤n) (h2:n≤9223372036854775807):IntKind.i64.wrap n=n:=by
 show (if (true && decide (n % 18446744073709551616≥9223372036854775808))=true then n % 18446744073709551616 - 18446744073709551616 else n % 18446744073709551616)=n
 by_cases h:n % 18446744073709551616≥9223372036854775808
 ·rw [if_pos (by simpa using h)];omega
 ·rw [if_neg (by simpa using h)];omega
theorem add_ci {a b:Int} (h1:-9223372036854775808≤a+b) (h2:a+b≤9223372036854775807):binC .add false (ci a) (ci b)=some (ci (a+b)):=by
 simp [binC,ci,binV,isShift,intBin,wrapS h1 h2]
theorem sub_ci {a b:Int} (h1:-9223372036854775808≤a - b) (h2:a - b≤9223372036854775807):binC .sub false (ci a) (ci b)=some (ci (a - b)):=by
 simp [binC,ci,binV,isShift,intBin,wrapS h1 h2]
theorem lss_ci (a b:Int):binC .lss false (ci a) (ci b)=some (cb (decide (a < b))):=by simp [binC,ci,cb,binV,isShift,intBin]
theorem leq_ci (a b:Int):binC .leq false (ci a) (ci b)=some (cb (decide (a≤b))):=by simp [binC,ci,cb,binV,isShift,intBin]
theorem gtr_ci (a b:Int):binC .gtr false (ci a) (ci b)=some (cb (decide (a > b))):=by simp [binC,ci,cb,binV,isShift,intBin]
theorem geq_ci (a b:Int):binC .geq false (ci a) (ci b)=some (cb (decide (a≥b))):=by simp [binC,ci,cb,binV,isShift,intBin]
theorem eql_ci (a b:Int):binC .eql false (ci a) (ci b)=some (cb (a==b)):=by simp [binC,ci,cb,binV,isShift,intBin]
theorem neq_ci (a b:Int):binC .neq false (ci a) (ci b)=some (cb (!(a==b))):=by
 simp [binC,ci,cb,binV,isShift,intBin]
 rfl
theorem not_cb (b:Bool):unC .not (cb b)=some (cb (!b)):=rfl
theorem ite_t {α:Type} (t e:Option α):iteC (cb true) t e=t:=rfl
theorem ite_f {α:Type} (t e:Option α):iteC (cb false) t e=e:=rfl
theorem toList_eq' (a b:ByteArray):(a.toList==b.toList)=decide (a=b):=by
 rw [kt_list,kt_list]
 by_cases h:a=b
 ·subst h;simp
 ·have:a.data.toList≠b.data.toList:=fun e=>h (by
   obtain ⟨a⟩:=a
   obtain ⟨b⟩:=b
   congr 1
   exact Array.toList_inj.1 e)
  rw [decide_eq_false h]
  exact beq_eq_false_iff_ne.2 this
theorem eql_cs (a b:ByteArray):binC .eql false (cs a) (cs b)=some (cb (decide (a=b))):=by
 simp only [binC,cs,binV,strBin,Bool.false_eq_true,if_false,Option.bind_some,cb,toList_eq']
theorem neq_cs (a b:ByteArray):binC .neq false (cs a) (cs b)=some (cb (!decide (a=b))):=by
 simp only [binC,cs,binV,strBin,Bool.false_eq_true,if_false,Option.bind_some,cb,toList_eq']
theorem eqs_cs (neg:Bool) (a b a' b':ByteArray):eqsC [1,1] neg [cs a,cs b] [cs a',cs b']=some (cb (if neg then !(decide (a=a') && decide (b=b')) else decide (a=a') && decide (b=b'))):=by
 simp only [eqsC,eqCs,eqC,cs,cb,Option.bind_some,toList_eq',Bool.and_true]
theorem eql_cb (a b:Bool):binC .eql true (cb a) (cb b)=some (cb (a==b)):=rfl
theorem neq_cb (a b:Bool):binC .neq true (cb a) (cb b)=some (cb (!(a==b))):=rfl
theorem len_cs (a:ByteArray):lenC true (cs a)=some (ci a.size):=rfl
theorem len_slice (l:List C) (n:Nat):lenC false (.slice l n)=some (ci n):=rfl
theorem nth7 (o:Ob):[nthC (enc o) 0,nthC (enc o) 1,nthC (enc o) 2,nthC (enc o) 3,nthC (enc o) 4,nthC (enc o) 5,nthC (enc o) 6]=enc o:=by cases o<;>rfl
end
end Go.Ey.Pr

set_option maxHeartbeats 4000000
namespace Go.Ey.Pr
open Go.Ey Go.Ey.Seat
section
variable {nat:Nat→List V→Option (List V)}
theorem kInt (n:Int):C.lit (.int .i64 n)=ci n:=rfl
theorem kBool (b:Bool):C.lit (.bool b)=cb b:=rfl
theorem kStr (b:ByteArray):C.lit (.string b)=cs b:=rfl
theorem kZ:C.slice [] 0=cz:=rfl
theorem len_cz:lenC false cz=some (ci 0):=rfl
theorem one_row (x:List C) (h:x.length=7):litsC 7 1 x=some (.slice x 1):=by simp [litsC,h,roomMax]
def lispB:ByteArray:=⟨#[108,105,115,112]⟩
def nilB:ByteArray:=⟨#[110,105,108]⟩
def tB:ByteArray:=⟨#[116]⟩
def quoB:ByteArray:=⟨#[113,117,111,116,101]⟩
theorem lispK:(⟨#[108,105,115,112]⟩:ByteArray)=lispB:=rfl
theorem nilK:(⟨#[110,105,108]⟩:ByteArray)=nilB:=rfl
theorem tK:(⟨#[116]⟩:ByteArray)=tB:=rfl
theorem quoK:(⟨#[113,117,111,116,101]⟩:ByteArray)=quoB:=rfl
def zS:=And.intro @bodyT.eq_1 (And.intro @entryA.eq_1 (And.intro @entryA.eq_2 (And.intro @entryA.eq_3 (And.intro @entryA.eq_4 (And.intro @entryA.eq_5 (And.intro @entryA.eq_6 (And.intro @entryB.eq_1 (And.intro @entryB.eq_2 (And.intro @entryB.eq_3 (And.intro @denT.eq_1 (And.intro @denT.eq_2 (And.intro @denT.eq_3 (And.intro @denT.eq_4 (And.intro @denT.eq_5 (And.intro @denT.eq_6 (And.intro @denT.eq_7 (And.intro @taDs.eq_1 (And.intro @taDs.eq_2 (And.intro @taD.eq_1 (And.intro @taD.eq_2 (And.intro @tvDs.eq_1 (And.intro @tvDs.eq_2 (And.intro @tvD.eq_1 (And.intro @tvD.eq_2 (And.intro @slD.eq_1 (And.intro @slD.eq_2 (And.intro @slDs.eq_1 (And.intro @slDs.eq_2 (And.intro @atC.eq_1 (And.intro @atC.eq_2 (And.intro @atC.eq_3 (And.intro @atC.eq_4 (And.intro @atCs.eq_1 (And.intro @atCs.eq_2 (And.intro @atO.eq_1 (And.intro @atO.eq_2 (And.intro @opcD.eq_1 (And.intro @opcD.eq_2 (And.intro @opcD.eq_3 (And.intro @opcD.eq_4 (And.intro @opcD.eq_5 (And.intro @opcD.eq_6 (And.intro @opcD.eq_7 (And.intro @opcD.eq_8 (And.intro @opcD.eq_9 (And.intro @opcD.eq_10 (And.intro @opcD.eq_11 (And.intro @opcD.eq_12 (And.intro @opcD.eq_13 (And.intro @opcD.eq_14 (And.intro @opcD.eq_15 (And.intro @opcD.eq_16 (And.intro @opcD.eq_17 (And.intro @getW.eq_1 (And.intro @getW.eq_2 (And.intro @getW.eq_3 (And.intro @twDs.eq_1 (And.intro @twDs.eq_2 (And.intro @twD.eq_1 (And.intro @twD.eq_2 (And.intro @sized.eq_1 (And.intro @bindVs.eq_1 (And.intro @bindVs.eq_2 (And.intro @bindVs.eq_3 (And.intro @bindBs.eq_1 (And.intro @bindBs.eq_2 (And.intro @getOne.eq_1 (And.intro @getAgg.eq_1 (And.intro @getBox.eq_1 (And.intro @nthC.eq_1 (And.intro @nthC.eq_2 (And.intro @nthC.eq_3 (And.intro @kInt (And.intro @kBool (And.intro @kStr (And.intro @kZ (And.intro @eql_ci (And.intro @neq_ci (And.intro @lss_ci (And.intro @leq_ci (And.intro @gtr_ci (And.intro @geq_ci (And.intro @eql_cs (And.intro @neq_cs (And.intro @eqs_cs (And.intro @eql_cb (And.intro @neq_cb (And.intro @not_cb (And.intro @ite_t (And.intro @ite_f (And.intro @len_cs (And.intro @len_slice (And.intro @len_cz (And.intro @lispK (And.intro @nilK (And.intro @tK (@quoK)))))))))))))))))))))))))))))))))))))))))))))))))))))))))))))))))))))))))))))))))))))))))))))))))
def oNil:Ob:=.sy lispB nilB
def oT:Ob:=.sy lispB tB
def isCons:Ob→Bool
 |.cons _ _=>true
 |_=>false
def isNilO:Ob→Bool
 |.sy p s=>decide (p=lispB) && decide (s=nilB)
 |_=>false
theorem x123 (o:Ob):fnT (T nat).G 123 [.v (.agg (enc o))] []=some ([.one (cb (isCons o))],[]):=by
 rw [fnT_eq tree123]
 cases o<;>simp [t123,enc,isCons,zS]
theorem x124 (o:Ob):fnT (T nat).G 124 [.v (.agg (enc o))] []=some ([.one (cb (isNilO o))],[]):=by
 rw [fnT_eq tree124]
 cases o<;>simp [t124,enc,isNilO,zS]
theorem x94 (s:ByteArray):fnT (T nat).G 94 [.v (.one (cs s))] []=some ([.agg [cs lispB,cs s]],[]):=by
 rw [fnT_eq tree94]
 simp [t94,zS]
theorem x49 (p s:ByteArray):fnT (T nat).G 49 [.v (.agg [cs p,cs s])] []=some ([.agg (enc (.sy p s))],[]):=by
 rw [fnT_eq tree49]
 simp [t49,enc,ce,zS]
theorem x119 (p s:ByteArray):fnT (T nat).G 119 [.v (.agg [cs p,cs s])] []=some ([.agg (enc (.sy p s))],[]):=by
 rw [fnT_eq tree119]
 simp [t119,enc,ce,zS]
theorem x44:fnT (T nat).G 44 [] []=some ([.agg (enc oNil)],[]):=by
 rw [fnT_eq tree44]
 simp [t44,zS,x94,x49,oNil,enc_len]
theorem x46:fnT (T nat).G 46 [] []=some ([.agg (enc oT)],[]):=by
 rw [fnT_eq tree46]
 simp [t46,zS,x94,x49,oT,enc_len]
theorem x121:fnT (T nat).G 121 [] []=some ([.agg (enc oNil)],[]):=by
 rw [fnT_eq tree121]
 simp [t121,zS,x119,oNil,enc_len]
theorem x145:fnT (T nat).G 145 [] []=some ([.agg (enc oT)],[]):=by
 rw [fnT_eq tree145]
 simp [t145,zS,x119,oT,enc_len]
theorem x120:fnT (T nat).G 120 [] []=some ([.agg [cs lispB,cs quoB]],[]):=by
 rw [fnT_eq tree120]
 simp [t120,zS]
theorem nth14 (a b:Ob):[nthC (enc a) 0,nthC (enc a) 1,nthC (enc a) 2,nthC (enc a) 3,nthC (enc a) 4,nthC (enc a) 5,nthC (enc a) 6,nthC (enc b) 0,nthC (enc b) 1,nthC (enc b) 2,nthC (enc b) 3,nthC (enc b) 4,nthC (enc b) 5,nthC (enc b) 6]=enc a++enc b:=by
 cases a<;>cases b<;>rfl
theorem two_rows (x:List C) (h:x.length=14):litsC 7 2 x=some (.slice x 2):=by simp [litsC,h,roomMax]
theorem x45 (a b:Ob):fnT (T nat).G 45 [.v (.agg (enc a)),.v (.agg (enc b))] []=some ([.agg (enc (.cons a b))],[]):=by
 rw [fnT_eq tree45]
 simp only [t45,entryA,enc_len,if_true,bodyT,entryB,denT,opcD,atCs,atC,getW,List.nil_append,List.cons_append,Option.bind_some,nth14]
 rw [two_rows _ (by simp [enc_len])]
 simp [zS,enc,ce]
theorem x50 (s:ByteArray):fnT (T nat).G 50 [.v (.one (cs s))] []=some ([.agg (enc (.st s))],[]):=by
 rw [fnT_eq tree50]
 simp [t50,enc,ce,zS]
theorem x19 (s:ByteArray):fnT (T nat).G 19 [.v (.one (cs s))] []=some ([.agg [cs ⟨#[117,115,101,114]⟩,cs s]],[]):=by
 rw [fnT_eq tree19]
 simp [t19,zS]
def items:Ob→Option (List Ob)
 |.cons a b=>(items b).map fun l=>a::l
 |o=>if isNilO o then some [] else none
def szO:Ob→Nat
 |.cons a b=>szO a+szO b+1
 |_=>1
def lim:Nat:=100000
theorem pair0 (a b:Ob):rowC 7 (nthC (enc (.cons a b)) 6) (ci 0)=some (enc a):=(row_two _ _ (enc_len a) (enc_len b)).1
theorem pair1 (a b:Ob):rowC 7 (nthC (enc (.cons a b)) 6) (ci 1)=some (enc b):=(row_two _ _ (enc_len a) (enc_len b)).2
theorem lits7 (o:Ob):litsC 7 1 [nthC (enc o) 0,nthC (enc o) 1,nthC (enc o) 2,nthC (enc o) 3,nthC (enc o) 4,nthC (enc o) 5,nthC (enc o) 6]=some (.slice (enc o) 1):=by
 rw [nth7];exact one_row _ (enc_len o)
theorem app7 {acc:List Ob} {x:Ob} (h:acc.length < 1000000):appC 7 112 (.slice (enc x) 1) (rows enc acc)=some (rows enc (acc++[x])):=
 app_row enc_len (by decide) (by simp only [roomMax];omega) (by simp only [roomMax];omega)
theorem items_loop (o:Ob):∀acc:List Ob,acc.length+szO o≤lim→
  hdT (T nat).G 41 0 [.l (enc o),.c (rows enc acc)]=some (match items o with|some l=>([.one (rows enc (acc++l)),.one (cb true)],[])|none=>([.one cz,.one (cb false)],[])):=by
 induction o with
 |cons a b _ ih=>
  intro acc hl
  simp only [szO,lim] at hl
  have ha:=app7 (acc:=acc) (x:=a) (by omega)
  have hi:=ih (acc++[a]) (by simp only [List.length_append,List.length_singleton,lim];omega)
  rw [hdT_eq tree41 (t:=t41.heads[0]) rfl]
  simp [t41,zS,x123,isCons,pair0,pair1,lits7,ha,hi,items]
  cases items b<;>simp
 |sy p s=>
  intro acc hl
  rw [hdT_eq tree41 (t:=t41.heads[0]) rfl]
  cases h:isNilO (.sy p s)<;>simp [t41,zS,x123,x124,isCons,items,h]
 |num n d=>
  intro acc hl
  rw [hdT_eq tree41 (t:=t41.heads[0]) rfl]
  simp [t41,zS,x123,x124,isCons,items,isNilO]
 |st t=>
  intro acc hl
  rw [hdT_eq tree41 (t:=t41.heads[0]) rfl]
  simp [t41,zS,x123,x124,isCons,items,isNilO]
def itemsR (r:Option (List Ob)):R:=match r with|some l=>([.one (rows enc l),.one (cb true)],[])|none=>([.one cz,.one (cb false)],[])
theorem x41 (o:Ob) (h:szO o≤lim):fnT (T nat).G 41 [.v (.agg (enc o))] []=some (itemsR (items o)):=by
 rw [fnT_eq tree41]
 have:=items_loop (nat:=nat) o [] (by simpa using h)
 simp only [rows_nil,List.nil_append] at this
 simp [t41,zS,enc_len,this,itemsR]
def eqO:Ob→Ob→Bool
 |.num n d,.num n' d'=>decide (n=n') && decide (d=d')
 |.sy p s,.sy p' s'=>decide (p=p') && decide (s=s')
 |.st t,.st t'=>decide (t=t')
 |.cons a b,.cons a' b'=>eqO a a' && eqO b b'
 |_,_=>false
theorem eqO_refl:∀o:Ob,eqO o o=true
 |.num _ _=>by simp [eqO]
 |.sy _ _=>by simp [eqO]
 |.st _=>by simp [eqO]
 |.cons a b=>by simp [eqO,eqO_refl a,eqO_refl b]
theorem add_nat (k:Nat) (h:k < 1000000):binC .add false (ci k) (ci 1)=some (ci ((k+1:Nat):Int)):=by
 rw [add_ci (by omega) (by omega)];simp
theorem len6 (a b:Ob):lenC false (nthC (enc (.cons a b)) 6)=some (ci 2):=rfl
theorem x11end (a b c d e f:C) (y:List C):hdT (T nat).G 11 0 [.c (ci 0),.l [a,b,c,d,e,f,cz],.l y]=some ([.one (cb true)],[]):=by
 rw [hdT_eq tree11 (t:=t11.heads[0]) rfl]
 simp [t11,zS]
theorem x11 (a:Ob):∀b:Ob,fnT (T nat).G 11 [.v (.agg (enc a)),.v (.agg (enc b))] []=some ([.one (cb (eqO a b))],[]):=by
 induction a with
 |num n d=>
  intro b
  rw [fnT_eq tree11]
  cases b with
  |num n' d'=>by_cases h1:n=n'<;>by_cases h2:d=d'<;>simp [t11,zS,enc,ce,eqO,h1,h2,x11end]
  |_=>simp [t11,zS,enc,ce,eqO]
 |sy p s=>
  intro b
  rw [fnT_eq tree11]
  cases b with
  |sy p' s'=>by_cases h1:p=p'<;>by_cases h2:s=s'<;>simp [t11,zS,enc,ce,eqO,h1,h2,x11end]
  |_=>simp [t11,zS,enc,ce,eqO]
 |st t=>
  intro b
  rw [fnT_eq tree11]
  cases b with
  |st t'=>by_cases h1:t=t'<;>simp [t11,zS,enc,ce,eqO,h1,x11end]
  |_=>simp [t11,zS,enc,ce,eqO]
 |cons a1 a2 ih1 ih2=>
  intro b
  cases b with
  |cons b1 b2=>
   have e2:hdT (T nat).G 11 0 [.c (ci 2),.l (enc (.cons a1 a2)),.l (enc (.cons b1 b2))]=some ([.one (cb true)],[]):=by
    rw [hdT_eq tree11 (t:=t11.heads[0]) rfl]
    simp [t11,zS,len6]
   have e1:hdT (T nat).G 11 0 [.c (ci 1),.l (enc (.cons a1 a2)),.l (enc (.cons b1 b2))]=some ([.one (cb (eqO a2 b2))],[]):=by
    rw [hdT_eq tree11 (t:=t11.heads[0]) rfl]
    cases h:eqO a2 b2<;>simp [t11,zS,pair1,ih2,h,e2,len6,add_ci]
   have e0:hdT (T nat).G 11 0 [.c (ci 0),.l (enc (.cons a1 a2)),.l (enc (.cons b1 b2))]=some ([.one (cb (eqO a1 b1 && eqO a2 b2))],[]):=by
    rw [hdT_eq tree11 (t:=t11.heads[0]) rfl]
    cases h:eqO a1 b1<;>simp [t11,zS,pair0,ih1,h,e1,len6,add_ci]
   rw [fnT_eq tree11]
   have q0:nthC (enc (.cons a1 a2)) 0=ci 4:=rfl
   have q1:∀k,k=1∨k=2∨k=3∨k=4∨k=5→nthC (enc (.cons a1 a2)) k=cs ⟨#[]⟩:=by rintro k (rfl|rfl|rfl|rfl|rfl)<;>rfl
   have p0:nthC (enc (.cons b1 b2)) 0=ci 4:=rfl
   have p1:∀k,k=1∨k=2∨k=3∨k=4∨k=5→nthC (enc (.cons b1 b2)) k=cs ⟨#[]⟩:=by rintro k (rfl|rfl|rfl|rfl|rfl)<;>rfl
   simp [t11,zS,eqO,e0,enc_len,len6,q0,q1,p0,p1]
  |_=>
   rw [fnT_eq tree11]
   simp [t11,zS,enc,ce,eqO]
end
end Go.Ey.Pr

set_option maxHeartbeats 4000000
namespace Go.Ey.Pr
open Go.Ey Go.Ey.Seat
inductive Tm where
 |var (p s:ByteArray)
 |con (o:Ob)
 |app (p s:ByteArray) (ts:List Tm)
mutual
def encT:Tm→List C
 |.var p s=>[ci 1,cs p,cs s,ci 0,ce,ce,ce,ce,ce,cz,cz]
 |.con o=>[ci 2,ce,ce,nthC (enc o) 0,nthC (enc o) 1,nthC (enc o) 2,nthC (enc o) 3,nthC (enc o) 4,nthC (enc o) 5,nthC (enc o) 6,cz]
 |.app p s ts=>[ci 3,cs p,cs s,ci 0,ce,ce,ce,ce,ce,cz,.slice (encTs ts) ts.length]
def encTs:List Tm→List C
 |[]=>[]
 |t::ts=>encT t++encTs ts
end
theorem encTs_flat:∀l:List Tm,encTs l=l.flatMap encT
 |[]=>rfl
 |t::ts=>by rw [encTs,List.flatMap_cons,encTs_flat ts]
theorem encT_len (t:Tm):(encT t).length=11:=by cases t<;>rfl
theorem encT_app (p s:ByteArray) (ts:List Tm):encT (.app p s ts)=[ci 3,cs p,cs s,ci 0,ce,ce,ce,ce,ce,cz,rows encT ts]:=by
 simp [encT,rows,encTs_flat]
def zT:List C:=[ci 0,ce,ce,ci 0,ce,ce,ce,ce,ce,cz,cz]
theorem nth11 (t:Tm):[nthC (encT t) 0,nthC (encT t) 1,nthC (encT t) 2,nthC (encT t) 3,nthC (encT t) 4,nthC (encT t) 5,nthC (encT t) 6,nthC (encT t) 7,nthC (encT t) 8,nthC (encT t) 9,nthC (encT t) 10]=encT t:=by cases t<;>rfl
theorem lits11 (t:Tm):litsC 11 1 [nthC (encT t) 0,nthC (encT t) 1,nthC (encT t) 2,nthC (encT t) 3,nthC (encT t) 4,nthC (encT t) 5,nthC (encT t) 6,nthC (encT t) 7,nthC (encT t) 8,nthC (encT t) 9,nthC (encT t) 10]=some (.slice (encT t) 1):=by
 rw [nth11];simp [litsC,encT_len,roomMax]
theorem app11 {acc:List Tm} {x:Tm} (h:acc.length < 1000000):appC 11 176 (.slice (encT x) 1) (rows encT acc)=some (rows encT (acc++[x])):=
 app_row encT_len (by decide) (by simp only [roomMax];omega) (by simp only [roomMax];omega)
def eB:ByteArray:=⟨#[]⟩
theorem emK:cs ⟨#[]⟩=ce:=rfl
theorem eql_ce1 (b:ByteArray):binC .eql false ce (cs b)=some (cb (decide (eB=b))):=eql_cs _ _
theorem eql_ce2 (b:ByteArray):binC .eql false (cs b) ce=some (cb (decide (b=eB))):=eql_cs _ _
theorem neq_ce1 (b:ByteArray):binC .neq false ce (cs b)=some (cb (!decide (eB=b))):=neq_cs _ _
theorem neq_ce2 (b:ByteArray):binC .neq false (cs b) ce=some (cb (!decide (b=eB))):=neq_cs _ _
theorem eql_cee:binC .eql false ce ce=some (cb true):=by simp [ce,eql_cs]
theorem neq_cee:binC .neq false ce ce=some (cb false):=by simp [ce,neq_cs]
theorem eqs_ce1 (neg:Bool) (a b:ByteArray):eqsC [1,1] neg [ce,ce] [cs a,cs b]=some (cb (if neg then !(decide (eB=a) && decide (eB=b)) else decide (eB=a) && decide (eB=b))):=eqs_cs _ _ _ _ _
theorem eqs_ce2 (neg:Bool) (a b:ByteArray):eqsC [1,1] neg [cs a,cs b] [ce,ce]=some (cb (if neg then !(decide (a=eB) && decide (b=eB)) else decide (a=eB) && decide (b=eB))):=eqs_cs _ _ _ _ _
theorem eqs_ce3 (neg:Bool):eqsC [1,1] neg [ce,ce] [ce,ce]=some (cb (!neg)):=by cases neg<;>simp [ce,eqs_cs]
def zZ:=And.intro zS (And.intro @emK (And.intro @eql_ce1 (And.intro @eql_ce2 (And.intro @neq_ce1 (And.intro @neq_ce2 (And.intro @eql_cee (And.intro @neq_cee (And.intro @eqs_ce1 (And.intro @eqs_ce2 (@eqs_ce3))))))))))
theorem sub_from {α:Type} {f:α→List C} {e:Nat} (hf:∀x,(f x).length=e) {l:List α} {k:Nat} (h:k≤l.length):subC e (some (ci k)) none (rows f l)=some (rows f (l.drop k)):=by
 have h1:(0:Int)≤(k:Int):=by omega
 have h2:(l.drop k).flatMap f=(l.flatMap f).drop (k * e):=(flat_drop hf k l).symm
 have h3:(l.flatMap f).length=l.length * e:=flat_len hf l
 simp only [subC,rows,loC,hiC,ci,if_pos h1,Option.bind_some,Int.toNat_natCast,Nat.le_refl,and_true,h,if_true,true_and]
 rw [h2,List.take_of_length_le (by simp only [List.length_drop,h3,Nat.sub_mul];omega),List.length_drop]
section
variable {nat:Nat→List V→Option (List V)}
theorem x169 (p s:ByteArray):fnT (T nat).G 169 [.v (.agg [cs p,cs s])] []=some ([.agg (encT (.var p s))],[]):=by
 rw [fnT_eq tree169]
 simp [t169,zZ,encT]
theorem x87 (p s:ByteArray):fnT (T nat).G 87 [.v (.agg [cs p,cs s])] []=some ([.agg (encT (.var p s))],[]):=by
 rw [fnT_eq tree87]
 simp [t87,zZ,encT]
theorem x151 (o:Ob):fnT (T nat).G 151 [.v (.agg (enc o))] []=some ([.agg (encT (.con o))],[]):=by
 rw [fnT_eq tree151]
 simp [t151,zZ,encT,enc_len]
theorem x83 (o:Ob):fnT (T nat).G 83 [.v (.agg (enc o))] []=some ([.agg (encT (.con o))],[]):=by
 rw [fnT_eq tree83]
 simp [t83,zZ,encT,enc_len]
theorem x136 (p s:ByteArray) (ts:List Tm):fnT (T nat).G 136 [.v (.agg [cs p,cs s]),.v (.one (rows encT ts))] []=some ([.agg (encT (.app p s ts))],[]):=by
 rw [fnT_eq tree136]
 simp [t136,zZ,encT_app]
theorem x72 (p s:ByteArray) (ts:List Tm):fnT (T nat).G 72 [.v (.agg [cs p,cs s]),.v (.one (rows encT ts))] []=some ([.agg (encT (.app p s ts))],[]):=by
 rw [fnT_eq tree72]
 simp [t72,zZ,encT_app]
def unqP:Ob→Option Tm×Option (List Tm)
 |.sy p s=>(some (.var p s),if isNilO (.sy p s) then some [] else none)
 |.num _ _=>(none,none)
 |.st _=>(none,none)
 |.cons a b=>(match a with
   |.sy p s=>if decide (p=lispB) && decide (s=quoB) then (match items b with|some [x]=>some (.con x)|_=>none) else (unqP b).2.map fun ts=> .app p s ts
   |_=>none,
  (unqP a).1.bind fun t=>(unqP b).2.bind fun ts=>some (t::ts))
def unq (o:Ob):Option Tm:=(unqP o).1
def mapO {α β:Type} (f:α→Option β):List α→Option (List β)
 |[]=>some []
 |x::xs=>(f x).bind fun y=>(mapO f xs).bind fun ys=>some (y::ys)
theorem unqL_items:∀o:Ob,(unqP o).2=(items o).bind (mapO unq)
 |.sy p s=>by
  simp only [unqP,items]
  cases isNilO (.sy p s)<;>rfl
 |.num _ _=>rfl
 |.st _=>rfl
 |.cons a b=>by
  simp only [unqP,items,unqL_items b]
  cases items b with
  |none=>simp
  |some l=>simp [mapO,unq]
theorem items_sz:∀{o:Ob} {l:List Ob},items o=some l→l.length < szO o∧∀x∈l,szO x < szO o
 |.sy p s,l,h=>by
  simp only [items] at h
  split at h
  ·simp only [Option.some.injEq] at h;subst h;simp [szO]
  ·cases h
 |.num _ _,l,h=>by simp [items,isNilO] at h
 |.st _,l,h=>by simp [items,isNilO] at h
 |.cons a b,l,h=>by
  simp only [items,Option.map_eq_some_iff] at h
  obtain ⟨r,h1,rfl⟩:=h
  obtain ⟨h2,h3⟩:=items_sz h1
  simp only [szO,List.length_cons,List.mem_cons]
  refine ⟨by omega,fun x hx=>?_⟩
  rcases hx with rfl|hx
  ·omega
  ·have:=h3 x hx;omega
def unqR (r:Option Tm):R:=match r with|some t=>([.agg (encT t),.one (cb true)],[])|none=>([.agg zT,.one (cb false)],[])
theorem unq_loop (p s:ByteArray) (rest:List Ob) (hl:rest.length < 100000) (ih:∀x∈rest,fnT (T nat).G 125 [.v (.agg (enc x))] []=some (unqR (unq x))):∀(m k:Nat) (acc:List Tm),k+m=rest.length→acc.length=k→
  hdT (T nat).G 125 0 [.c (rows enc (.sy p s::rest)),.c (rows enc rest),.c (ci rest.length),.c (ci k),.c (ci 0),.c ce,.c ce,.c (ci 0),.c ce,.c ce,.c ce,.c ce,.c ce,.c cz,.c cz,.c (rows encT acc)]=
   some (unqR ((mapO unq (rest.drop k)).bind fun ts=>some (.app p s (acc++ts))))
 |0,k,acc,hk,ha=>by
  have h0:rowC 7 (rows enc (.sy p s::rest)) (ci 0)=some (enc (.sy p s)):=row_at (k:=0) enc_len rfl
  have hd:rest.drop k=[]:=List.drop_eq_nil_of_le (by omega)
  have hlt:¬((k:Int) < (rest.length:Int)):=by omega
  rw [hdT_eq tree125 (t:=t125.heads[0]) rfl]
  simp [t125,zZ,hlt,hd,mapO,h0]
  simp [enc,zZ,x136,unqR,encT_len]
 |m+1,k,acc,hk,ha=>by
  have hlt:(k:Int) < (rest.length:Int):=by omega
  have hkr:k < rest.length:=by omega
  have hr:rowC 7 (rows enc rest) (ci k)=some (enc rest[k]):=row_at enc_len (List.getElem?_eq_getElem hkr)
  have hc:=ih rest[k] (List.getElem_mem hkr)
  have hd:rest.drop k=rest[k]::rest.drop (k+1):=List.drop_eq_getElem_cons hkr
  have hs:=add_nat k (by omega)
  rw [hdT_eq tree125 (t:=t125.heads[0]) rfl,hd]
  cases hu:unq rest[k] with
  |none=>
   rw [hu] at hc
   simp [t125,zZ,hlt,hr,hc,unqR,mapO,hu,enc_len,zT]
  |some t=>
   rw [hu] at hc
   have ha':=app11 (acc:=acc) (x:=t) (by omega)
   have hi:=unq_loop p s rest hl ih m (k+1) (acc++[t]) (by omega) (by simp [ha])
   simp only [unqR] at hc
   simp [t125,zZ,hlt,hr,hc,mapO,hu,enc_len,encT_len,lits11,ha',hs]
   rw [show ((k:Int)+1)=((k+1:Nat):Int) by omega,hi]
   cases mapO unq (rest.drop (k+1))<;>simp
def isSym:Ob→Bool
 |.sy _ _=>true
 |_=>false
theorem neq_sym (a:Ob):binC .neq false (nthC (enc a) 0) (ci 2)=some (cb (!isSym a)):=by
 cases a<;>simp [enc,nthC,neq_ci,isSym]
def unqC (a:Ob) (l:List Ob):Option Tm:=
 match a with
 |.sy p s=>if decide (p=lispB) && decide (s=quoB) then (match some l with|some [x]=>some (.con x)|_=>none) else (mapO unq l).map fun ts=> .app p s ts
 |_=>none
theorem unq_cons (a b:Ob):unq (.cons a b)=(items b).bind (unqC a):=by
 have hl:=unqL_items b
 cases hb:items b with
 |none=>rw [hb] at hl;cases a<;>simp [unq,unqP,hl,hb]
 |some l=>rw [hb] at hl;cases a<;>simp only [unq,unqP,hl,hb,unqC,Option.bind_some]<;>rfl
theorem x125none (a b:Ob) (hm:szO (.cons a b)≤90000) (hb:items b=none):fnT (T nat).G 125 [.v (.agg (enc (.cons a b)))] []=some (unqR none):=by
 have hi:=x41 (nat:=nat) (.cons a b) (by simp only [lim];omega)
 have q0:nthC (enc (.cons a b)) 0=ci 4:=rfl
 simp only [items,hb,Option.map_none,itemsR] at hi
 rw [fnT_eq tree125]
 simp [t125,zZ,enc_len,q0,hi,unqR,zT]
theorem x125non (a b:Ob) (l:List Ob) (hm:szO (.cons a b)≤90000) (hb:items b=some l) (ha:isSym a=false):fnT (T nat).G 125 [.v (.agg (enc (.cons a b)))] []=some (unqR none):=by
 have hi:=x41 (nat:=nat) (.cons a b) (by simp only [lim];omega)
 have q0:nthC (enc (.cons a b)) 0=ci 4:=rfl
 simp only [items,hb,Option.map_some,itemsR] at hi
 have hlen:lenC false (rows enc (a::l))=some (ci ((l.length+1:Nat):Int)):=rfl
 have h0:rowC 7 (rows enc (a::l)) (ci 0)=some (enc a):=row_at (k:=0) enc_len rfl
 have hne:(((l.length:Int)+1)==0)=false:=beq_eq_false_iff_ne.2 (by omega)
 have hk:=neq_sym a
 rw [ha] at hk
 rw [fnT_eq tree125]
 simp [t125,zZ,enc_len,q0,hi,hlen,h0,hne,hk,unqR,zT]
theorem x125sym (p s:ByteArray) (b:Ob) (l:List Ob) (hm:szO (.cons (.sy p s) b)≤90000) (hb:items b=some l)
  (hlp:hdT (T nat).G 125 0 [.c (rows enc (.sy p s::l)),.c (rows enc l),.c (ci l.length),.c (ci 0),.c (ci 0),.c ce,.c ce,.c (ci 0),.c ce,.c ce,.c ce,.c ce,.c ce,.c cz,.c cz,.c cz]=
   some (unqR ((mapO unq l).bind fun ts=>some (.app p s ts)))):fnT (T nat).G 125 [.v (.agg (enc (.cons (.sy p s) b)))] []=some (unqR (unqC (.sy p s) l)):=by
 have hi:=x41 (nat:=nat) (.cons (.sy p s) b) (by simp only [lim];omega)
 have q0:nthC (enc (.cons (.sy p s) b)) 0=ci 4:=rfl
 simp only [items,hb,Option.map_some,itemsR] at hi
 have hlen:lenC false (rows enc (.sy p s::l))=some (ci ((l.length+1:Nat):Int)):=rfl
 have h0:rowC 7 (rows enc (.sy p s::l)) (ci 0)=some (enc (.sy p s)):=row_at (k:=0) enc_len rfl
 have hne:(((l.length:Int)+1)==0)=false:=beq_eq_false_iff_ne.2 (by omega)
 have hk:=neq_sym (.sy p s)
 simp only [isSym] at hk
 have hsub:subC 7 (some (ci 1)) none (rows enc (.sy p s::l))=some (rows enc l):=(sub_from (l:=.sy p s::l) (k:=1) enc_len (by simp)).trans (by simp)
 have q3:nthC (enc (.sy p s)) 3=cs p:=rfl
 have q4:nthC (enc (.sy p s)) 4=cs s:=rfl
 rw [fnT_eq tree125]
 by_cases hq:p=lispB∧s=quoB
 ·obtain ⟨rfl,rfl⟩:=hq
  match l,hi,hlen,h0,hne,hsub with
  |[],hi,hlen,h0,hne,hsub=>simp [t125,zZ,enc_len,q0,hi,hlen,h0,hk,q3,q4,x120,unqC,unqR,zT]
  |[x],hi,hlen,h0,hne,hsub=>
   have h1:rowC 7 (rows enc [.sy lispB quoB,x]) (ci 1)=some (enc x):=row_at (k:=1) enc_len rfl
   simp [t125,zZ,enc_len,encT_len,q0,hi,hlen,h0,hk,q3,q4,x120,h1,x151,unqC,unqR,zT]
  |x::y::l',hi,hlen,h0,hne,hsub=>
   have hn2:(((l'.length:Int)+1+1+1)==0)=false:=beq_eq_false_iff_ne.2 (by omega)
   have hn3:(((l'.length:Int)+1+1+1)==2)=false:=beq_eq_false_iff_ne.2 (by omega)
   simp [t125,zZ,enc_len,q0,hi,hlen,h0,hk,q3,q4,x120,unqC,unqR,zT,hn2,hn3]
 ·have hd:(decide (p=lispB) && decide (s=quoB))=false:=by
   simp only [Bool.and_eq_false_iff,decide_eq_false_iff_not]
   by_cases h1:p=lispB
   ·exact .inr fun h2=>hq ⟨h1,h2⟩
   ·exact .inl h1
  have hc:unqC (.sy p s) l=(mapO unq l).bind fun ts=>some (.app p s ts):=by
   simp only [unqC,hd,Bool.false_eq_true,if_false]
   cases mapO unq l<;>rfl
  have he:eqsC [1,1] false [cs p,cs s] [cs lispB,cs quoB]=some (cb false):=by rw [eqs_cs];simp [hd]
  rw [hc]
  have hl0:lenC false (rows enc l)=some (ci l.length):=rfl
  simp [t125,bodyT,entryA,entryB,denT,taDs,taD,tvDs,tvD,slD,slDs,atC,atCs,atO,opcD,getW,twDs,twD,sized,bindVs,bindBs,getOne,getAgg,getBox,nthC,kInt,kBool,kStr,kZ,eql_ci,neq_ci,ite_t,ite_f,emK,enc_len,q0,hi,hlen,h0,hne,hk,q3,q4,x120,he,hsub,hl0,not_cb]
  simpa using hlp
theorem x125:∀(n:Nat) (o:Ob),szO o≤n→szO o≤90000→fnT (T nat).G 125 [.v (.agg (enc o))] []=some (unqR (unq o))
 |0,o,h,_=>by cases o<;>simp [szO] at h
 |n+1,.sy p s,h,hm=>by
  rw [fnT_eq tree125]
  simp [t125,zZ,enc,x169,unq,unqP,unqR,encT_len]
 |n+1,.num a b,h,hm=>by
  have hi:=x41 (nat:=nat) (.num a b) (by simp [szO,lim])
  rw [fnT_eq tree125]
  simp [items,isNilO,itemsR,enc] at hi
  simp [t125,zZ,enc,hi,unq,unqP,unqR,zT]
 |n+1,.st a,h,hm=>by
  have hi:=x41 (nat:=nat) (.st a) (by simp [szO,lim])
  rw [fnT_eq tree125]
  simp [items,isNilO,itemsR,enc] at hi
  simp [t125,zZ,enc,hi,unq,unqP,unqR,zT]
 |n+1,.cons a b,h,hm=>by
  rw [unq_cons]
  cases hb:items b with
  |none=>exact x125none a b hm hb
  |some l=>
   obtain ⟨hl1,hl2⟩:=items_sz hb
   simp only [Option.bind_some]
   cases a with
   |sy p s=>
    simp only [szO] at h hm
    have hlp:=unq_loop (nat:=nat) p s l (by omega) (fun x hx=>x125 n x (by have:=hl2 x hx;omega) (by have:=hl2 x hx;omega)) l.length 0 [] (by omega) rfl
    simp only [List.drop_zero,List.nil_append,rows_nil] at hlp
    exact x125sym p s b l (by simp only [szO];omega) hb hlp
   |num u v=>exact x125non _ b l hm hb rfl
   |st u=>exact x125non _ b l hm hb rfl
   |cons u v=>exact x125non _ b l hm hb rfl
end
end Go.Ey.Pr

set_option maxHeartbeats 4000000
namespace Go.Ey.Pr
open Go.Ey Go.Ey.Seat
section
variable {nat:Nat→List V→Option (List V)}
end
end Go.Ey.Pr

set_option maxHeartbeats 4000000
namespace Go.Ey.Pr
open Go.Ey Go.Ey.Seat
def heads:List ByteArray:=[⟨#[99,97,114]⟩,⟨#[99,100,114]⟩,⟨#[99,111,110,115]⟩,⟨#[99,111,110,115,112]⟩,⟨#[110,111,116]⟩,⟨#[101,113,117,97,108]⟩,⟨#[105,102]⟩,⟨#[98,105,110,97,114,121,45,43]⟩,⟨#[60]⟩,⟨#[105,110,116,101,103,101,114,112]⟩,⟨#[108,101,110]⟩,⟨#[98,105,110,97,114,121,45,97,112,112,101,110,100]⟩,⟨#[114,101,118]⟩,⟨#[116,114,117,101,45,108,105,115,116,112]⟩,⟨#[110,97,116,112]⟩,⟨#[112,111,115,112]⟩,⟨#[117,110,97,114,121,45,45]⟩,⟨#[98,105,110,97,114,121,45,42]⟩,⟨#[105,109,112,108,105,101,115]⟩,⟨#[115,121,109,98,111,108,112]⟩,⟨#[114,97,116,105,111,110,97,108,112]⟩,⟨#[102,105,120]⟩,⟨#[105,102,102]⟩,⟨#[110,102,105,120]⟩,⟨#[122,112]⟩]
def owns:List ByteArray:=[⟨#[100,117,98]⟩,⟨#[115,97,109,101,45,108,101,110]⟩,⟨#[112,97,105,114,115]⟩,⟨#[100,117,98,115]⟩,⟨#[116,114,101,101]⟩,⟨#[101,118,101,110,115]⟩,⟨#[111,100,100,115]⟩,⟨#[120,111,114,50]⟩]
def usr:ByteArray:=⟨#[117,115,101,114]⟩
def more:List Ob:=(quoB::heads).map (Ob.sy lispB)++(⟨#[120]⟩::⟨#[121]⟩::⟨#[122]⟩::owns).map (Ob.sy usr)
def atoms:List Ob:=[oNil,oT,
 .num ⟨#[48]⟩ ⟨#[49]⟩,.num ⟨#[49]⟩ ⟨#[49]⟩,.num ⟨#[50]⟩ ⟨#[49]⟩,.num ⟨#[51]⟩ ⟨#[49]⟩,.num ⟨#[45,49]⟩ ⟨#[49]⟩,.num ⟨#[45,50]⟩ ⟨#[49]⟩,.num ⟨#[45,51]⟩ ⟨#[49]⟩,
 .num ⟨#[49]⟩ ⟨#[50]⟩,.num ⟨#[45,53]⟩ ⟨#[51]⟩,
 .sy ⟨#[117,115,101,114]⟩ ⟨#[97]⟩,.sy ⟨#[117,115,101,114]⟩ ⟨#[98]⟩,.sy ⟨#[117,115,101,114]⟩ ⟨#[99]⟩,
 .st ⟨#[]⟩,.st ⟨#[112]⟩,.st ⟨#[112,113]⟩]++more
def Good:Ob→Prop
 |.cons a b=>Good a∧Good b
 |o=>o∈atoms
def yes:R:=([.one (cb true)],[])
structure AtomsOK (nat:Nat→List V→Option (List V)):Prop where
 v150:∀o∈atoms,fnT (T nat).G 150 [.v (.agg (enc o))] []=some yes
 v239:∀o∈atoms,fnT (T nat).G 239 [.v (.agg (enc o))] []=some yes
 v240:∀p s,.sy p s∈atoms→fnT (T nat).G 240 [.v (.agg [cs p,cs s])] []=some yes
theorem szO_pos (o:Ob):1≤szO o:=by cases o<;>simp [szO]
section
variable {nat:Nat→List V→Option (List V)}
theorem x187f (o:Ob) (n:Int):fnT (T nat).G 187 [.v (.agg (enc o)),.v (.one (ci n))] []=hdT (T nat).G 187 0 [.c (ci n),.l (enc o)]:=by
 rw [fnT_eq tree187]
 simp [t187,zS,enc_len]
theorem x187h:∀(o:Ob) (n:Int),(szO o:Int)≤n→n≤3001→hdT (T nat).G 187 0 [.c (ci n),.l (enc o)]=some ([.one (ci (n - szO o))],[])
 |.cons a b,n,h1,h2=>by
  simp only [szO] at h1 ⊢
  have ha:=szO_pos a
  have hb:=szO_pos b
  have hg:(0:Int) < n:=by omega
  have hs:binC .sub false (ci n) (ci 1)=some (ci (n - 1)):=sub_ci (by omega) (by omega)
  have h3:=x187h a (n - 1) (by omega) (by omega)
  have h4:=x187h b (n - 1 - szO a) (by omega) (by omega)
  rw [hdT_eq tree187 (t:=t187.heads[0]) rfl]
  simp [t187,zS,len6,hg,pair0,pair1,hs,x187f,h3,h4,enc_len]
  exact congrArg ci (by omega)
 |.num u v,n,h1,h2=>by
  simp only [szO] at h1 ⊢
  have hg:(0:Int) < n:=by omega
  have hs:binC .sub false (ci n) (ci 1)=some (ci (n - 1)):=sub_ci (by omega) (by omega)
  rw [hdT_eq tree187 (t:=t187.heads[0]) rfl]
  simp [t187,zS,hg,hs,enc]
 |.sy u v,n,h1,h2=>by
  simp only [szO] at h1 ⊢
  have hg:(0:Int) < n:=by omega
  have hs:binC .sub false (ci n) (ci 1)=some (ci (n - 1)):=sub_ci (by omega) (by omega)
  rw [hdT_eq tree187 (t:=t187.heads[0]) rfl]
  simp [t187,zS,hg,hs,enc]
 |.st u,n,h1,h2=>by
  simp only [szO] at h1 ⊢
  have hg:(0:Int) < n:=by omega
  have hs:binC .sub false (ci n) (ci 1)=some (ci (n - 1)):=sub_ci (by omega) (by omega)
  rw [hdT_eq tree187 (t:=t187.heads[0]) rfl]
  simp [t187,zS,hg,hs,enc]
theorem max_ci (a b:Int):mmC true (ci a) (ci b)=some (ci (max a b)):=by
 have h:(if b > a then b else a)=max a b:=by split<;>omega
 simp only [mmC,ci,minmax,if_true,h,Option.bind_some]
theorem x149 (o:Ob) (h:szO o≤3000):fnT (T nat).G 149 [.v (.agg (enc o))] []=some ([.one (ci (szO o))],[]):=by
 have h3:=(x187f (nat:=nat) o 3001).trans (x187h (nat:=nat) o 3001 (by omega) (by omega))
 have hm:mmC true (ci 0) (ci ((3001:Int) - szO o))=some (ci (3001 - szO o)):=by
  rw [max_ci]
  exact congrArg (fun x=>some (ci x)) (by omega)
 have hs:binC .sub false (ci 3001) (ci (3001 - szO o))=some (ci (3001 - (3001 - szO o))):=sub_ci (by omega) (by omega)
 have he:(3001:Int) - (3001 - szO o)=szO o:=by omega
 rw [he] at hs
 rw [fnT_eq tree149]
 simp [t149,zS,h3,hm,hs,enc_len]
theorem x188c (a b:Ob):fnT (T nat).G 188 [.v (.agg (enc (.cons a b))),.v (.one (cb false)),.v (.one (cb false)),.v (.one (cb false))] []=some ([.one (cb true)],[]):=by
 rw [fnT_eq tree188]
 simp [t188,zZ,enc]
theorem x150f (o:Ob):fnT (T nat).G 150 [.v (.agg (enc o))] []=hdT (T nat).G 150 0 [.l (enc o)]:=by
 rw [fnT_eq tree150]
 simp [t150,zS,enc_len]
theorem x150 (ha:AtomsOK nat):∀o:Ob,Good o→fnT (T nat).G 150 [.v (.agg (enc o))] []=some yes
 |.cons a b,hg=>by
  have h1:=x150 ha a hg.1
  have h2:=x150 ha b hg.2
  rw [x150f] at h2
  have q0:nthC (enc (.cons a b)) 0=ci 4:=rfl
  rw [x150f,hdT_eq tree150 (t:=t150.heads[0]) rfl]
  simp [t150,zS,q0,x188c,pair0,pair1,h1,h2,len6,enc_len,yes]
 |.num u v,hg=>ha.v150 _ hg
 |.sy u v,hg=>ha.v150 _ hg
 |.st u,hg=>ha.v150 _ hg
theorem x90 (ha:AtomsOK nat) (o:Ob) (hg:Good o) (h:szO o≤3000):fnT (T nat).G 90 [.v (.agg (enc o))] []=some yes:=by
 have hl:(szO o:Int)≤3000:=by omega
 rw [fnT_eq tree90]
 simp [t90,zS,x149 o h,x150 ha o hg,hl,enc_len,yes]
end
end Go.Ey.Pr

set_option maxHeartbeats 4000000
namespace Go.Ey.Pr
open Go.Ey Go.Ey.Seat
mutual
def nodesT:Tm→Nat
 |.var _ _=>1
 |.con o=>szO o
 |.app _ _ ts=>1+nodesTs ts
def nodesTs:List Tm→Nat
 |[]=>0
 |t::ts=>nodesT t+nodesTs ts
end
mutual
def depthT:Tm→Nat
 |.var _ _=>1
 |.con _=>1
 |.app _ _ ts=>1+depthTs ts
def depthTs:List Tm→Nat
 |[]=>0
 |t::ts=>max (depthT t) (depthTs ts)
end
def varOK (p s:ByteArray):Bool:=!(decide (p=lispB) && decide (s=nilB)) && !(decide (p=lispB) && decide (s=tB))
mutual
def formedT:Tm→Bool
 |.var p s=>varOK p s
 |.con _=>true
 |.app _ _ ts=>decide (ts.length≤8) && formedTs ts
def formedTs:List Tm→Bool
 |[]=>true
 |t::ts=>formedT t && formedTs ts
end
inductive GoodT:Tm→Prop where
 |var {p s}: .sy p s∈atoms→GoodT (.var p s)
 |con {o}:Good o→szO o≤3000→GoodT (.con o)
 |app {p s ts}: .sy p s∈atoms→(∀t∈ts,GoodT t)→GoodT (.app p s ts)
theorem nodesT_pos (t:Tm):1≤nodesT t:=by
 cases t with
 |con o=>simpa [nodesT] using szO_pos o
 |_=>simp [nodesT]
theorem depthT_pos (t:Tm):1≤depthT t:=by cases t<;>simp [depthT]
theorem drop_at {α:Type} {l:List α} {k:Nat} (h:k < l.length):l.drop k=l[k]::l.drop (k+1):=List.drop_eq_getElem_cons h
theorem drop_end {α:Type} {l:List α} {k:Nat} (h:¬k < l.length):l.drop k=[]:=List.drop_eq_nil_of_le (by omega)
theorem row11 {ts:List Tm} {k:Nat} (h:k < ts.length):rowC 11 (rows encT ts) (ci k)=some (encT ts[k]):=row_at encT_len (List.getElem?_eq_getElem h)
theorem len11 (ts:List Tm):lenC false (rows encT ts)=some (ci ts.length):=rfl
section
variable {nat:Nat→List V→Option (List V)}
theorem x200loop (ts:List Tm) (hm:ts.length < 100000) (ih:∀t∈ts,∀n:Int,(nodesT t:Int)≤n→n≤3001→fnT (T nat).G 200 [.v (.agg (encT t)),.v (.one (ci n))] []=some ([.one (ci (n - nodesT t))],[])):∀(m k:Nat) (n:Int),k+m=ts.length→(nodesTs (ts.drop k):Int)≤n→n≤3001→
  hdT (T nat).G 200 0 [.c (ci n),.c (rows encT ts),.c (ci ts.length),.c (ci k)]=some ([.one (ci (n - nodesTs (ts.drop k)))],[])
 |0,k,n,hk,h1,h2=>by
  have hlt:¬((k:Int) < (ts.length:Int)):=by omega
  rw [hdT_eq tree200 (t:=t200.heads[0]) rfl,drop_end (by omega)]
  simp [t200,zS,hlt,nodesTs]
 |m+1,k,n,hk,h1,h2=>by
  have hkr:k < ts.length:=by omega
  have hlt:((k:Int) < (ts.length:Int)):=by omega
  rw [drop_at hkr] at h1 ⊢
  simp only [nodesTs] at h1 ⊢
  have hp:=nodesT_pos ts[k]
  have hg:¬n≤0:=by omega
  have hc:=ih ts[k] (List.getElem_mem hkr) n (by omega) h2
  have hi:=x200loop ts hm ih m (k+1) (n - nodesT ts[k]) (by omega) (by omega) (by omega)
  have hs:=add_nat k (by omega)
  rw [hdT_eq tree200 (t:=t200.heads[0]) rfl]
  simp [-Int.natCast_add,t200,zS,hlt,hg,row11 hkr,hc,hs,hi,encT_len]
  exact congrArg ci (by omega)
theorem len_nodes:∀ts:List Tm,ts.length≤nodesTs ts
 |[]=>Nat.zero_le _
 |t::ts=>by
  have:=nodesT_pos t
  have:=len_nodes ts
  simp only [List.length_cons,nodesTs]
  omega
theorem mem_nodes:∀{ts:List Tm} {t:Tm},t∈ts→nodesT t≤nodesTs ts
 |x::ts,t,h=>by
  simp only [nodesTs]
  rcases List.mem_cons.1 h with rfl|h
  ·omega
  ·have:=mem_nodes h;omega
theorem x200 {t:Tm} (hg:GoodT t):∀n:Int,(nodesT t:Int)≤n→n≤3001→fnT (T nat).G 200 [.v (.agg (encT t)),.v (.one (ci n))] []=some ([.one (ci (n - nodesT t))],[]):=by
 induction hg with
 |var h=>
  intro n h1 h2
  simp only [nodesT] at h1 ⊢
  have hs:binC .sub false (ci n) (ci 1)=some (ci (n - 1)):=sub_ci (by omega) (by omega)
  rw [fnT_eq tree200]
  simp [t200,zZ,encT,hs]
 |@con o h ho=>
  intro n h1 h2
  simp only [nodesT] at h1 ⊢
  have hs:binC .sub false (ci n) (ci (szO o))=some (ci (n - szO o)):=sub_ci (by omega) (by omega)
  rw [fnT_eq tree200]
  simp only [encT]
  simp [t200,zZ,nth7,x149 o ho,hs]
 |@app p s ts h hs ih=>
  intro n h1 h2
  simp only [nodesT] at h1 ⊢
  have hb:binC .sub false (ci n) (ci 1)=some (ci (n - 1)):=sub_ci (by omega) (by omega)
  have hl:=len_nodes ts
  have hi:=x200loop ts (by omega) ih ts.length 0 (n - 1) (by omega) (by rw [List.drop_zero];omega) (by omega)
  rw [List.drop_zero] at hi
  simp only [Int.natCast_zero] at hi
  rw [fnT_eq tree200,encT_app]
  simp [t200,zZ,hb,len11,hi]
  exact congrArg ci (by omega)
theorem x170 {t:Tm} (hg:GoodT t) (h:nodesT t≤3000):fnT (T nat).G 170 [.v (.agg (encT t))] []=some ([.one (ci (nodesT t))],[]):=by
 have h3:=x200 (nat:=nat) hg 3001 (by omega) (by omega)
 have hm:mmC true (ci 0) (ci ((3001:Int) - nodesT t))=some (ci (3001 - nodesT t)):=by
  rw [max_ci]
  exact congrArg (fun x=>some (ci x)) (by omega)
 have hs:binC .sub false (ci 3001) (ci (3001 - nodesT t))=some (ci (3001 - (3001 - nodesT t))):=sub_ci (by omega) (by omega)
 have he:(3001:Int) - (3001 - nodesT t)=nodesT t:=by omega
 rw [he] at hs
 rw [fnT_eq tree170]
 simp [t170,zS,h3,hm,hs,encT_len]
theorem x201loop (ts:List Tm) (hm:ts.length < 100000) (n:Int) (h2:n≤201) (ih:∀t∈ts,∀n:Int,(depthT t:Int) < n→n≤201→fnT (T nat).G 201 [.v (.agg (encT t)),.v (.one (ci n))] []=some ([.one (ci (depthT t))],[])):∀(m k d:Nat),k+m=ts.length→1≤d→(max d (1+depthTs (ts.drop k)):Nat) < n→
  hdT (T nat).G 201 0 [.c (ci n),.c (ci d),.c (rows encT ts),.c (ci ts.length),.c (ci k)]=some ([.one (ci ((max d (1+depthTs (ts.drop k)):Nat):Int))],[])
 |0,k,d,hk,hd,h1=>by
  have hlt:¬((k:Int) < (ts.length:Int)):=by omega
  rw [hdT_eq tree201 (t:=t201.heads[0]) rfl,drop_end (by omega)]
  have he:max d (1+depthTs [])=d:=by simp only [depthTs];omega
  rw [he]
  simp [t201,zS,hlt]
 |m+1,k,d,hk,hd,h1=>by
  have hkr:k < ts.length:=by omega
  have hlt:((k:Int) < (ts.length:Int)):=by omega
  rw [drop_at hkr] at h1 ⊢
  simp only [depthTs] at h1 ⊢
  have hp:=depthT_pos ts[k]
  have hsb:binC .sub false (ci n) (ci 1)=some (ci (n - 1)):=sub_ci (by omega) (by omega)
  have hc:=ih ts[k] (List.getElem_mem hkr) (n - 1) (by omega) (by omega)
  have ha:binC .add false (ci 1) (ci (depthT ts[k]))=some (ci (1+depthT ts[k])):=add_ci (by omega) (by omega)
  have hx:mmC true (ci d) (ci (1+depthT ts[k]))=some (ci ((max d (1+depthT ts[k]):Nat):Int)):=by
   rw [max_ci]
   exact congrArg (fun x=>some (ci x)) (by omega)
  have hge:¬n≤((max d (1+depthT ts[k]):Nat):Int):=by omega
  have hi:=x201loop ts hm n h2 ih m (k+1) (max d (1+depthT ts[k])) (by omega) (by omega) (by omega)
  have hs:=add_nat k (by omega)
  have he:max (max d (1+depthT ts[k])) (1+depthTs (ts.drop (k+1)))=max d (1+max (depthT ts[k]) (depthTs (ts.drop (k+1)))):=by omega
  rw [he] at hi
  rw [hdT_eq tree201 (t:=t201.heads[0]) rfl]
  simp only [t201]
  simp [-Int.natCast_add,zS,hlt,hge,row11 hkr,hsb,hc,ha,hx,hs,hi,encT_len]
theorem x201 {t:Tm} (hg:GoodT t) (hn:nodesT t≤3000):∀n:Int,(depthT t:Int) < n→n≤201→fnT (T nat).G 201 [.v (.agg (encT t)),.v (.one (ci n))] []=some ([.one (ci (depthT t))],[]):=by
 induction hg with
 |var h=>
  intro n h1 h2
  rw [fnT_eq tree201]
  simp [t201,zZ,encT,depthT]
 |@con o h ho=>
  intro n h1 h2
  rw [fnT_eq tree201]
  simp only [encT]
  simp [t201,zZ,depthT]
 |@app p s ts h hs ih=>
  intro n h1 h2
  simp only [nodesT] at hn
  simp only [depthT] at h1 ⊢
  have hl:=len_nodes ts
  have hg:¬n≤1:=by omega
  have hi:=x201loop ts (by omega) n h2 (fun t ht=>ih t ht (by have:=mem_nodes ht;omega)) ts.length 0 1 (by omega) (by omega) (by rw [List.drop_zero];omega)
  have he:max 1 (1+depthTs ts)=1+depthTs ts:=by omega
  rw [List.drop_zero,he] at hi
  simp only [Int.natCast_zero,Int.natCast_one] at hi
  rw [fnT_eq tree201,encT_app]
  simp only [t201]
  simp [-Int.natCast_add,zZ,hg,len11,hi]
theorem x171 {t:Tm} (hg:GoodT t) (hn:nodesT t≤3000) (h:depthT t≤200):fnT (T nat).G 171 [.v (.agg (encT t))] []=some ([.one (ci (depthT t))],[]):=by
 have h3:=x201 (nat:=nat) hg hn 201 (by omega) (by omega)
 rw [fnT_eq tree171]
 simp [t171,zS,h3,encT_len]
end
end Go.Ey.Pr

set_option maxHeartbeats 4000000
namespace Go.Ey.Pr
open Go.Ey Go.Ey.Seat
section
variable {nat:Nat→List V→Option (List V)}
theorem x203z:fnT (T nat).G 203 [.v (.agg [ci 0,ce,ce,ce,ce,ce,cz]),.v (.agg [ci 0,ce,ce,ce,ce,ce,cz])] []=some yes:=by
 rw [fnT_eq tree203]
 simp [t203,zZ,yes]
 rw [hdT_eq tree203 (t:=t203.heads[0]) rfl]
 simp [t203,zZ,yes]
theorem x11z:fnT (T nat).G 11 [.v (.agg [ci 0,ce,ce,ce,ce,ce,cz]),.v (.agg [ci 0,ce,ce,ce,ce,ce,cz])] []=some yes:=by
 rw [fnT_eq tree11]
 simp [t11,zZ,yes,x11end]
theorem x204 (ha:AtomsOK nat) {p s:ByteArray} (h: .sy p s∈atoms):fnT (T nat).G 204 [.v (.agg [cs p,cs s])] []=some yes:=by
 rw [fnT_eq tree204]
 simp [t204,zZ,yes,x119,x90 ha (.sy p s) h (by simp [szO]),enc_len]
theorem x202 (ha:AtomsOK nat) {p s:ByteArray} (h: .sy p s∈atoms):fnT (T nat).G 202 [.v (.agg [cs p,cs s])] []=some ([.one (cb (varOK p s))],[]):=by
 rw [fnT_eq tree202]
 cases h1:(decide (p=lispB) && decide (s=nilB))<;>simp [t202,zZ,yes,x204 ha h,x121,x145,oNil,oT,enc,varOK,h1]
theorem x206 {t:Tm} {b:Bool} (h:fnT (T nat).G 172 [.v (.agg (encT t))] []=some ([.one (cb b)],[])):fnT (T nat).G 206 [.v (.agg (encT t))] []=some ([.one (cb !b)],[]):=by
 rw [fnT_eq tree206]
 simp [t206,zZ,h,encT_len]
theorem x402 (ts:List Tm) (hm:ts.length < 100000) (ih:∀t∈ts,fnT (T nat).G 172 [.v (.agg (encT t))] []=some ([.one (cb (formedT t))],[])):∀(m k:Nat),k+m=ts.length→
  ∃r:Int,hdT (T nat).G 402 0 [.c (rows encT ts),.c (ci ts.length),.c (ci k)]=some ([.one (ci r)],[])∧decide (0≤r)=!formedTs (ts.drop k)
 |0,k,hk=>by
  have hlt:¬((k:Int) < (ts.length:Int)):=by omega
  refine ⟨-1,?_,?_⟩
  ·rw [hdT_eq tree402 (t:=t402.heads[0]) rfl]
   simp [t402,zZ,hlt]
  ·rw [drop_end (by omega)];simp [formedTs]
 |m+1,k,hk=>by
  have hkr:k < ts.length:=by omega
  have hlt:((k:Int) < (ts.length:Int)):=by omega
  have hc:=x206 (ih ts[k] (List.getElem_mem hkr))
  have hs:=add_nat k (by omega)
  rw [drop_at hkr]
  simp only [formedTs]
  cases hb:formedT ts[k] with
  |false=>
   rw [hb] at hc
   refine ⟨k,?_,by simp⟩
   rw [hdT_eq tree402 (t:=t402.heads[0]) rfl]
   simp [t402,zZ,hlt,row11 hkr,hc,encT_len]
  |true=>
   rw [hb] at hc
   obtain ⟨r,h1,h2⟩:=x402 ts hm ih m (k+1) (by omega)
   refine ⟨r,?_,by simpa using h2⟩
   rw [hdT_eq tree402 (t:=t402.heads[0]) rfl]
   simp [-Int.natCast_add,t402,zZ,hlt,row11 hkr,hc,hs,h1,encT_len]
theorem x397 (ts:List Tm) (hm:ts.length < 100000) (ih:∀t∈ts,fnT (T nat).G 172 [.v (.agg (encT t))] []=some ([.one (cb (formedT t))],[])):
  fnT (T nat).G 397 [.v (.one (rows encT ts)),.ref 0 0] []=some ([.one (cb !formedTs ts)],[]):=by
 obtain ⟨r,h1,h2⟩:=x402 ts hm ih ts.length 0 (by omega)
 simp only [List.drop_zero,Int.natCast_zero] at h1 h2
 have h3:fnT (T nat).G 402 [.v (.one (rows encT ts)),.ref 0 0] []=some ([.one (ci r)],[]):=by
  rw [fnT_eq tree402]
  simp [t402,zZ,len11,h1]
 rw [fnT_eq tree397]
 simp only [t397]
 simp [zZ,h3,h2]
theorem x172 (ha:AtomsOK nat) {t:Tm} (hg:GoodT t) (hn:nodesT t≤3000):fnT (T nat).G 172 [.v (.agg (encT t))] []=some ([.one (cb (formedT t))],[]):=by
 induction hg with
 |@var p s h=>
  rw [fnT_eq tree172]
  cases hv:varOK p s<;>simp [t172,zZ,encT,formedT,x202 ha h,x203z,yes,hv]
 |@con o h ho=>
  rw [fnT_eq tree172]
  simp only [encT]
  simp [t172,zZ,formedT,x90 ha o h ho,nth7,yes]
 |@app p s ts h hs ih=>
  simp only [nodesT] at hn
  have hl:=len_nodes ts
  have h3:=x397 (nat:=nat) ts (by omega) (fun t ht=>ih t ht (by have:=mem_nodes ht;omega))
  rw [fnT_eq tree172,encT_app]
  by_cases h8:ts.length≤8
  ·have hg:¬(8:Int) < (ts.length:Int):=by omega
   simp [t172,zZ,formedT,x204 ha h,x203z,yes,len11,h3,h8,hg]
  ·have hg:(8:Int) < (ts.length:Int):=by omega
   simp [t172,zZ,formedT,x204 ha h,x203z,yes,len11,h3,h8,hg]
theorem x126 (ha:AtomsOK nat) {t:Tm} (hg:GoodT t) (hn:nodesT t≤3000) (hd:depthT t≤200):fnT (T nat).G 126 [.v (.agg (encT t))] []=some ([.one (cb (formedT t))],[]):=by
 have h1:(nodesT t:Int)≤3000:=by omega
 have h2:(depthT t:Int)≤200:=by omega
 rw [fnT_eq tree126]
 simp [t126,zZ,x170 hg hn,x171 hg hn hd,x172 ha hg hn,h1,h2,encT_len]
end
end Go.Ey.Pr
