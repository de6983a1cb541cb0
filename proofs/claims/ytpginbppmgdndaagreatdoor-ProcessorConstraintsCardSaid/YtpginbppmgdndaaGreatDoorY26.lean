/- A part of the proof. -/
import Derived.Test.YtpginbppmgdndaaGreatDoorY25
set_option linter.all false
namespace Go.Ey.Pr
open Go.Ey Go.Ey.Kst
def en27:List K:=[k3,kl,(.s 10 493273875644262058848373),ke,kz,ke,ke,kz,(.b false),k0,ke,ke,k0,ke,ke,ke,ke,ke,kz,kz,(.sl 37 [[kl,(.s 10 493273875644262058848373),(.sl 2 [[kl,sx],[kl,(.s 1 118)],[kl,(.s 1 110)]] 3),k1,k3,kl,(.s 2 26217),k0,ke,ke,ke,ke,ke,kz,(.sl 11 [[k2,ke,ke,k2,ke,ke,kl,(.s 3 7104878),ke,kz,kz],ap kl (.s 10 531053184691079719776884) [va kl sx] 1,ap kl (.s 4 1886675310) [va kl (.s 1 110)] 1] 3),k3,kl,(.s 2 26217),k0,ke,ke,ke,ke,ke,kz,(.sl 11 [ap kl (.s 4 1936617315) [ap kl (.s 10 493273875644262058848373) [ap kl (.s 3 7496803) [va kl sx] 1,va kl (.s 1 118),ap kl (.s 8 3111276449750739298) [va kl (.s 1 110),[k2,ke,ke,k1,(.s 2 12589),(.s 1 49),ke,ke,ke,kz,kz]] 2] 3,ap kl (.s 3 7496035) [va kl sx] 1] 2,ap kl (.s 4 1936617315) [ap kl (.s 3 7496803) [va kl sx] 1,va kl (.s 1 118)] 2,ap kl (.s 2 28794) [va kl (.s 1 110)] 1] 3),k3,kl,(.s 4 2020173422),k0,ke,ke,ke,ke,ke,kz,(.sl 11 [va kl (.s 1 110)] 1)]] 1),kz,kz,kz,ke,ke,kz,kz,kz,kz,ke,u0]
def en26:List K:=[k3,kl,(.s 3 6845550),ke,kz,ke,ke,kz,(.b false),k0,ke,ke,k0,ke,ke,ke,ke,ke,kz,kz,(.sl 37 [[kl,(.s 3 6845550),(.sl 2 [[kl,sx],[kl,(.s 1 110)]] 2),k1,k3,kl,(.s 2 26217),k0,ke,ke,ke,ke,ke,kz,(.sl 11 [[k2,ke,ke,k2,ke,ke,kl,(.s 3 7104878),ke,kz,kz],ap kl (.s 10 531053184691079719776884) [va kl sx] 1,ap kl (.s 4 1886675310) [va kl (.s 1 110)] 1] 3),k3,kl,(.s 2 26217),k0,ke,ke,ke,ke,ke,kz,(.sl 11 [ap kl (.s 3 6845550) [ap kl (.s 3 7496803) [va kl sx] 1,ap kl (.s 8 3111276449750739298) [va kl (.s 1 110),[k2,ke,ke,k1,(.s 2 12589),(.s 1 49),ke,ke,ke,kz,kz]] 2] 2,ap kl (.s 3 7496035) [va kl sx] 1,ap kl (.s 2 28794) [va kl (.s 1 110)] 1] 3),k3,kl,(.s 4 2020173422),k0,ke,ke,ke,ke,ke,kz,(.sl 11 [va kl (.s 1 110)] 1)]] 1),kz,kz,kz,ke,ke,kz,kz,kz,kz,ke,u0]
def en25:List K:=[k3,kl,(.s 11 131024224507261934500016993),ke,kz,ke,ke,kz,(.b false),k0,ke,ke,k0,ke,ke,ke,ke,ke,kz,kz,(.sl 37 [[kl,(.s 11 131024224507261934500016993),(.sl 2 [[kl,(.s 1 97)],[kl,(.s 1 107)]] 2),k1,k2,ke,ke,k2,ke,ke,kl,(.s 1 116),ke,kz,kz,k3,kl,(.s 2 26217),k0,ke,ke,ke,ke,ke,kz,(.sl 11 [ap kl (.s 2 26217) [ap kl (.s 2 26217) [[k2,ke,ke,k2,ke,ke,kl,(.s 3 7104878),ke,kz,kz],ap kl (.s 11 131024224507261934500016993) [ap kl (.s 3 7496803) [va kl (.s 1 97)] 1,va kl (.s 1 107)] 2,[k2,ke,ke,k2,ke,ke,kl,(.s 1 116),ke,kz,kz]] 3,ap kl (.s 3 7496035) [va kl (.s 1 97)] 1,ap kl (.s 2 26217) [[k2,ke,ke,k2,ke,ke,kl,(.s 3 7104878),ke,kz,kz],ap kl (.s 5 465491554661) [ap kl (.s 3 7496035) [ap kl (.s 3 7496035) [va kl (.s 1 97)] 1] 1,va kl (.s 1 107)] 2,ap kl (.s 5 482972954467) [ap kl (.s 3 7496035) [va kl (.s 1 97)] 1] 1] 3] 3,[k2,ke,ke,k2,ke,ke,kl,(.s 3 7104878),ke,kz,kz],ap kl (.s 3 7630702) [ap kl (.s 5 482972954467) [va kl (.s 1 97)] 1] 1] 3),k3,kl,(.s 5 500069396323),k0,ke,ke,ke,ke,ke,kz,(.sl 11 [va kl (.s 1 97)] 1)]] 1),kz,kz,kz,ke,ke,kz,kz,kz,kz,ke,u0]
def wm5:List (List K):=[en27,en26,en25]++wm4
def ws5:List KW:=[.c (.sl 32 wm5 28),.c (kn 28),.c dfK]
end Go.Ey.Pr

namespace Go.Ey.Pr
open Go.Ey Go.Ey.Kst
theorem wd5:krounds kgC 4000 4000 32 0 3 3 ws4=.stop ws5:=by kernel_rfl
end Go.Ey.Pr

namespace Go.Ey.Pr
open Go.Ey Go.Ey.Kst
def en28:List K:=[k1,kl,(.s 12 31382965401887741211696264053),us,(.sl 2 [[kl,(.s 9 2037169923889335397993)],[kl,(.s 11 122571058227641934735897193)],[kl,(.s 14 2239892019062521052805444961985895)],[kl,(.s 9 1871941851990027560294)],[kl,(.s 11 139566875009997741940237668)],[kl,(.s 8 8747795240677370227)],[kl,(.s 9 2110959713842717749872)],[kl,(.s 10 479217114100642154964327)],[kl,(.s 10 478793197326582454054755)],[kl,(.s 11 122571058513053206090969445)],[kl,(.s 4 1835625573)],[kl,(.s 6 125762639128940)],[kl,(.s 16 137483774621005110734058729535024820070)],[kl,(.s 17 37579152221671205238173544792657207785844)],[kl,(.s 7 28556968888591730)],[kl,(.s 12 35713422837776953901583201650)],[kl,(.s 7 32780218652715383)],[kl,(.s 6 127970520100457)],[kl,(.s 3 6648693)],[kl,(.s 5 495874632040)],[kl,(.s 7 28548142445324644)],[kl,(.s 6 111516181425765)],[kl,(.s 4 1953719666)],[kl,(.s 9 1871368777699076565363)],[kl,(.s 7 28554821420279149)],[kl,(.s 5 431415719271)],[kl,(.s 7 28554735403623780)],[kl,(.s 5 465490374508)],[kl,(.s 12 35416027086437465716643226980)],[kl,(.s 8 8532480098923079012)],[kl,(.s 11 122571058227094386601518436)],[kl,(.s 4 1868852853)],[kl,(.s 8 7810757299313993060)],[kl,(.s 12 33249612810592795105945677417)],[kl,(.s 9 2240301953860894551657)],[kl,(.s 8 7665812061680985444)],[kl,(.s 9 1871439140975576245604)],[kl,(.s 11 122651099442545230195420773)],[kl,(.s 6 120295396894052)],[kl,(.s 16 146793563287308389278137555690041144685)],[kl,(.s 5 474416047460)],[kl,(.s 8 8030590355653420388)],[kl,(.s 6 113711144920420)],[kl,(.s 6 110425311047777)],[kl,(.s 2 15678)],[kl,(.s 1 62)],[kl,(.s 2 15676)],[kl,(.s 1 47)],[kl,(.s 1 45)],[kl,(.s 1 42)],[kl,(.s 1 43)],[kl,(.s 5 182342347116)],[kl,(.s 4 1953720684)],[kl,(.s 2 29295)],[kl,(.s 3 6581857)],[kl,(.s 4 1684959075)],[kl,(.s 4 712271212)],[kl,(.s 3 7628140)],[kl,(.s 5 435745158513)],[kl,(.s 1 116)],[kl,(.s 3 7104878)],[kl,(.s 10 493273875644262058848373)],[kl,(.s 3 6845550)],[kl,(.s 11 131024224507261934500016993)],[kl,(.s 12 33542201473859071681443489133)],[kl,(.s 3 7759218)],[kl,(.s 13 7956982234992646598644298836322)],[kl,(.s 10 531053184691079719776884)],[kl,(.s 3 7234924)],[kl,(.s 3 7351663)],[kl,(.s 2 15471)],[kl,(.s 6 128038972042607)],[kl,(.s 19 2596503303086219638716254741629954753688907119)],[kl,(.s 16 154763657438445722016110534213293714799)],[kl,(.s 6 123619517017455)],[kl,(.s 5 500069396323)],[kl,(.s 2 28794)],[kl,(.s 4 2020173422)],[kl,(.s 4 1886613360)],[kl,(.s 4 1886675310)],[kl,(.s 4 2020173417)],[kl,(.s 3 7891302)],[kl,(.s 4 1885630053)],[kl,(.s 4 1836020833)],[kl,(.s 7 31657557352151411)],[kl,(.s 8 8101519867924934498)],[kl,(.s 3 6710889)],[kl,(.s 7 32481125787004265)],[kl,(.s 3 7630702)],[kl,(.s 11 125040764888893661906237794)],[kl,(.s 11 122651541423547657927947379)],[kl,(.s 13 8275754203313416711865239762035)],[kl,(.s 13 7956982234992646578836044149875)],[kl,(.s 6 121437607456361)],[kl,(.s 19 2261903658058535744205936875630873591400986995)],[kl,(.s 11 122618043001006431572687219)],[kl,(.s 5 491495844966)],[kl,(.s 11 138343872958643594702251364)],[kl,(.s 9 2110959975582353159534)],[kl,(.s 1 60)],[kl,(.s 7 13279323538681461)],[kl,(.s 7 12716373585260149)],[kl,(.s 8 3039218855712811362)],[kl,(.s 8 3111276449750739298)],[kl,(.s 8 8102650174351109737)],[kl,(.s 9 2073844980909096591730)],[kl,(.s 7 31638921304765555)],[kl,(.s 7 31644423040104819)],[kl,(.s 5 482972954467)],[kl,(.s 3 7496803)],[kl,(.s 3 7496035)],[kl,(.s 4 1936617315)],[kl,(.s 5 465491554661)],[kl,(.s 2 26217)]] 114),ke,ke,kz,(.b false),k0,ke,ke,k0,ke,ke,ke,ke,ke,kz,kz,kz,kz,kz,kz,ke,ke,kz,kz,kz,kz,ke,u0]
def wmE:List (List K):=[en28]++wm5
def wpK:K:=.sl 32 wmE 29
end Go.Ey.Pr

namespace Go.Ey.Pr
open Go.Ey Go.Ey.Kst
theorem wd6:(krun kgC 4000).hd 32 0 3 ws5=.ret [.c wpK] []:=by kernel_rfl
end Go.Ey.Pr

namespace Go.Ey.Pr
open Go.Ey Go.Ey.Seat
section
variable {nat:Nat→List V→Option (List V)}
theorem psig32:(T nat).psig 32=some []:=by kernel_rfl
theorem world (hn:NatI nat):∃us,All2 RVv [.c wpK] us∧fnT (T nat).G 32 [] []=some (us,[]):=by
 obtain ⟨v0,e0,l0,h0⟩:=kfirst_ok (kgC_ok hn) (p:=[]) psig32 (ts:=[]) rfl (ys:=[]) (us:=[]) trivial (zs:=[]) (css:=[]) trivial wd0
 obtain ⟨v1,e1,l1,h1⟩:=krounds_ok (kgC_ok hn) 12 e0 l0 wd1
 obtain ⟨v2,e2,l2,h2⟩:=krounds_ok (kgC_ok hn) 6 e1 l1 wd2
 obtain ⟨v3,e3,l3,h3⟩:=krounds_ok (kgC_ok hn) 4 e2 l2 wd3
 obtain ⟨v4,e4,l4,h4⟩:=krounds_ok (kgC_ok hn) 3 e3 l3 wd4
 obtain ⟨v5,e5,l5,h5⟩:=krounds_ok (kgC_ok hn) 3 e4 l4 wd5
 obtain ⟨r,hr,hv,hb⟩:=krun_hd (kgC_ok hn) (f:=32) (h:=0) e5 (by rw [l5];exact wd6)
 have h9:r.2=[]:=by obtain ⟨r1,r2⟩:=r;cases r2 with|nil=>rfl|cons _ _=>exact hb.elim
 refine ⟨r.1,hv,?_⟩
 rw [h0,h1,h2,h3,h4,h5,hr,←h9]
def kWorld:KFun:=⟨[],[],.ret [.one (.k wpK)] [],[]⟩
theorem world_known (hn:NatI nat):KKnown (T nat).G (T nat).psig 32 kWorld:=by
 obtain ⟨us,h1,h2⟩:=world hn
 exact known_closed psig32 (ws:=[.c wpK]) h1 (fun _ _=>rfl) h2
def kgD:KG:=.node 32 kWorld kgC kgC
theorem kgD_ok (hn:NatI nat):KGOK (T nat).G (T nat).psig kgD:=kgAdd (kgC_ok hn) (world_known hn)
end
end Go.Ey.Pr

namespace Go.Ey.Pr
open Go.Ey Go.Ey.Kst
def en37:List K:=[k3,us,(.s 8 7887336961221681523),ke,kz,ke,ke,kz,(.b false),k0,ke,ke,k0,ke,ke,ke,ke,ke,kz,kz,(.sl 37 [[us,(.s 8 7887336961221681523),(.sl 2 [[us,(.s 1 121)],[us,sx]] 2),k1,k2,ke,ke,k2,ke,ke,kl,(.s 1 116),ke,kz,kz,k3,kl,(.s 5 465491554661),k0,ke,ke,ke,ke,ke,kz,(.sl 11 [ap us (.s 3 6579297) [[k2,ke,ke,k2,ke,ke,kl,(.s 3 7104878),ke,kz,kz],va us sx,va us (.s 1 121)] 3,ap us (.s 3 6579297) [[k2,ke,ke,k2,ke,ke,kl,(.s 3 7104878),ke,kz,kz],va us (.s 1 121),va us sx] 3] 2),k0,ke,ke,k0,ke,ke,ke,ke,ke,kz,kz]] 1),kz,kz,kz,ke,ke,kz,kz,kz,kz,ke,u0]
def en36:List K:=[k3,us,(.s 3 6579297),ke,kz,ke,ke,kz,(.b false),k0,ke,ke,k0,ke,ke,ke,ke,ke,kz,kz,(.sl 37 [[us,(.s 3 6579297),(.sl 2 [[us,(.s 1 99)],[us,(.s 1 121)],[us,sx]] 3),k1,k2,ke,ke,k2,ke,ke,kl,(.s 1 116),ke,kz,kz,k3,kl,(.s 2 26217),k0,ke,ke,ke,ke,ke,kz,(.sl 11 [ap kl (.s 4 1936617315) [[k2,ke,ke,k2,ke,ke,kl,(.s 3 7104878),ke,kz,kz],va us (.s 1 99)] 2,ap kl (.s 4 1936617315) [ap us (.s 3 6579297) [ap kl (.s 2 26217) [ap kl (.s 2 26217) [[k2,ke,ke,k2,ke,ke,kl,(.s 3 7104878),ke,kz,kz],va us (.s 1 99),ap kl (.s 3 7496035) [va us (.s 1 121)] 1] 3,ap kl (.s 2 26217) [va us (.s 1 99),[k2,ke,ke,k2,ke,ke,kl,(.s 1 116),ke,kz,kz],ap kl (.s 3 7496035) [va us (.s 1 121)] 1] 3,ap kl (.s 3 7496035) [va us sx] 1] 3,ap kl (.s 3 7496803) [va us (.s 1 121)] 1,ap kl (.s 3 7496803) [va us sx] 1] 3,ap us (.s 4 846360440) [ap us (.s 4 846360440) [va us (.s 1 99),ap kl (.s 3 7496035) [va us (.s 1 121)] 1] 2,ap kl (.s 3 7496035) [va us sx] 1] 2] 2,ap kl (.s 5 482972954467) [va us sx] 1] 3),k3,kl,(.s 5 500069396323),k0,ke,ke,ke,ke,ke,kz,(.sl 11 [va us sx] 1)]] 1),kz,kz,kz,ke,ke,kz,kz,kz,kz,ke,u0]
def en35:List K:=[k3,us,(.s 4 846360440),ke,kz,ke,ke,kz,(.b false),k0,ke,ke,k0,ke,ke,ke,ke,ke,kz,kz,(.sl 37 [[us,(.s 4 846360440),(.sl 2 [[us,(.s 1 121)],[us,sx]] 2),k1,k2,ke,ke,k2,ke,ke,kl,(.s 1 116),ke,kz,kz,k3,kl,(.s 2 26217),k0,ke,ke,ke,ke,ke,kz,(.sl 11 [ap kl (.s 2 26217) [[k2,ke,ke,k2,ke,ke,kl,(.s 3 7104878),ke,kz,kz],[k2,ke,ke,k2,ke,ke,kl,(.s 1 116),ke,kz,kz],va us (.s 1 121)] 3,ap kl (.s 2 26217) [[k2,ke,ke,k2,ke,ke,kl,(.s 1 116),ke,kz,kz],[k2,ke,ke,k2,ke,ke,kl,(.s 3 7104878),ke,kz,kz],va us (.s 1 121)] 3,va us sx] 3),k0,ke,ke,k0,ke,ke,ke,ke,ke,kz,kz]] 1),kz,kz,kz,ke,ke,kz,kz,kz,kz,ke,u0]
def en34:List K:=[k3,us,(.s 5 495773382245),ke,kz,ke,ke,kz,(.b false),k0,ke,ke,k0,ke,ke,ke,ke,ke,kz,kz,(.sl 37 [[us,(.s 4 1935959151),(.sl 2 [[us,sx]] 1),k1,k2,ke,ke,k2,ke,ke,kl,(.s 1 116),ke,kz,kz,k3,kl,(.s 2 26217),k0,ke,ke,ke,ke,ke,kz,(.sl 11 [[k2,ke,ke,k2,ke,ke,kl,(.s 3 7104878),ke,kz,kz],ap us (.s 5 495773382245) [ap kl (.s 3 7496803) [va us sx] 1] 1,ap kl (.s 5 482972954467) [va us sx] 1] 3),k3,kl,(.s 5 500069396323),k0,ke,ke,ke,ke,ke,kz,(.sl 11 [va us sx] 1)],[us,(.s 5 495773382245),(.sl 2 [[us,sx]] 1),k1,k2,ke,ke,k2,ke,ke,kl,(.s 1 116),ke,kz,kz,k3,kl,(.s 2 26217),k0,ke,ke,ke,ke,ke,kz,(.sl 11 [[k2,ke,ke,k2,ke,ke,kl,(.s 3 7104878),ke,kz,kz],ap kl (.s 4 1936617315) [ap us (.s 4 1935959151) [ap kl (.s 3 7496803) [va us sx] 1] 1,ap kl (.s 3 7496035) [va us sx] 1] 2,ap kl (.s 5 482972954467) [va us sx] 1] 3),k3,kl,(.s 5 500069396323),k0,ke,ke,ke,ke,ke,kz,(.sl 11 [va us sx] 1)]] 2),kz,kz,kz,ke,ke,kz,kz,kz,kz,ke,u0]
def en33:List K:=[k3,us,(.s 4 1701147252),ke,kz,ke,ke,kz,(.b false),k0,ke,ke,k0,ke,ke,ke,ke,ke,kz,kz,(.sl 37 [[us,(.s 4 1701147252),(.sl 2 [[us,sx]] 1),k1,k2,ke,ke,k2,ke,ke,kl,(.s 1 116),ke,kz,kz,k3,kl,(.s 2 26217),k0,ke,ke,ke,ke,ke,kz,(.sl 11 [[k2,ke,ke,k1,(.s 1 49),(.s 1 49),ke,ke,ke,kz,kz],ap kl (.s 8 3111276449750739298) [ap us (.s 4 1701147252) [ap kl (.s 3 7496803) [va us sx] 1] 1,ap us (.s 4 1701147252) [ap kl (.s 3 7496035) [va us sx] 1] 1] 2,ap kl (.s 5 482972954467) [va us sx] 1] 3),k3,kl,(.s 5 500069396323),k0,ke,ke,ke,ke,ke,kz,(.sl 11 [va us sx] 1)]] 1),kz,kz,kz,ke,ke,kz,kz,kz,kz,ke,u0]
def en32:List K:=[k3,us,(.s 4 1935832420),ke,kz,ke,ke,kz,(.b false),k0,ke,ke,k0,ke,ke,ke,ke,ke,kz,kz,(.sl 37 [[us,(.s 4 1935832420),(.sl 2 [[us,sx]] 1),k1,k2,ke,ke,k2,ke,ke,kl,(.s 1 116),ke,kz,kz,k3,kl,(.s 2 26217),k0,ke,ke,ke,ke,ke,kz,(.sl 11 [[k2,ke,ke,k2,ke,ke,kl,(.s 3 7104878),ke,kz,kz],ap kl (.s 4 1936617315) [ap us (.s 4 1935832420) [ap kl (.s 3 7496803) [va us sx] 1] 1,ap us (.s 3 6452580) [ap kl (.s 3 7496035) [va us sx] 1] 1] 2,ap kl (.s 5 482972954467) [va us sx] 1] 3),k3,kl,(.s 5 500069396323),k0,ke,ke,ke,ke,ke,kz,(.sl 11 [va us sx] 1)]] 1),kz,kz,kz,ke,ke,kz,kz,kz,kz,ke,u0]
def en31:List K:=[k3,us,(.s 5 495840747888),ke,kz,ke,ke,kz,(.b false),k0,ke,ke,k0,ke,ke,ke,ke,ke,kz,kz,(.sl 37 [[us,(.s 5 495840747888),(.sl 2 [[us,(.s 1 121)],[us,sx]] 2),k1,k2,ke,ke,k2,ke,ke,kl,(.s 1 116),ke,kz,kz,k3,kl,(.s 2 26217),k0,ke,ke,ke,ke,ke,kz,(.sl 11 [[k2,ke,ke,k2,ke,ke,kl,(.s 3 7104878),ke,kz,kz],ap kl (.s 4 1936617315) [ap us (.s 5 495840747888) [ap kl (.s 3 7496803) [va us (.s 1 121)] 1,ap kl (.s 3 7496803) [va us sx] 1] 2,ap kl (.s 4 1936617315) [ap kl (.s 3 7496035) [va us (.s 1 121)] 1,ap kl (.s 3 7496035) [va us sx] 1] 2] 2,ap kl (.s 5 482972954467) [va us sx] 1] 3),k3,kl,(.s 5 500069396323),k0,ke,ke,ke,ke,ke,kz,(.sl 11 [va us sx] 1)]] 1),kz,kz,kz,ke,ke,kz,kz,kz,kz,ke,u0]
def en30:List K:=[k3,us,(.s 8 7954883259050844531),ke,kz,ke,ke,kz,(.b false),k0,ke,ke,k0,ke,ke,ke,ke,ke,kz,kz,(.sl 37 [[us,(.s 8 7954883259050844531),(.sl 2 [[us,(.s 1 121)],[us,sx]] 2),k1,k2,ke,ke,k2,ke,ke,kl,(.s 1 116),ke,kz,kz,k3,kl,(.s 5 465491554661),k0,ke,ke,ke,ke,ke,kz,(.sl 11 [ap kl (.s 3 7234924) [va us (.s 1 121)] 1,ap kl (.s 3 7234924) [va us sx] 1] 2),k0,ke,ke,k0,ke,ke,ke,ke,ke,kz,kz]] 1),kz,kz,kz,ke,ke,kz,kz,kz,kz,ke,u0]
def en29:List K:=[k3,us,(.s 3 6452580),ke,kz,ke,ke,kz,(.b false),k0,ke,ke,k0,ke,ke,ke,ke,ke,kz,kz,(.sl 37 [[us,(.s 3 6452580),(.sl 2 [[us,sx]] 1),k1,k2,ke,ke,k2,ke,ke,kl,(.s 1 116),ke,kz,kz,k3,kl,(.s 8 3111276449750739298),k0,ke,ke,ke,ke,ke,kz,(.sl 11 [va us sx,va us sx] 2),k0,ke,ke,k0,ke,ke,ke,ke,ke,kz,kz]] 1),kz,kz,kz,ke,ke,kz,kz,kz,kz,ke,u0]
def wlE:List (List K):=[en37,en36,en35,en34,en33,en32,en31,en30,en29]++wmE
def wlK:K:=.sl 32 wlE 38
end Go.Ey.Pr

namespace Go.Ey.Pr
open Go.Ey Go.Ey.Kst
theorem wl0:(krun kgD 3000).fn 7 [.c (.i .u32 0)] []=.ret [.c wlK] []:=by kernel_rfl
end Go.Ey.Pr

namespace Go.Ey.Pr
open Go.Ey Go.Ey.Seat
section
variable {nat:Nat→List V→Option (List V)}
theorem psig7:(T nat).psig 7=some [.one]:=by kernel_rfl
theorem lworld (hn:NatI nat):∃c,RK wlK c∧fnT (T nat).G 7 [.v (.one (.lit (.int .u32 0)))] []=some ([.one c],[]):=by
 obtain ⟨r1,g1,g2,g3⟩:=krun_fn (kgD_ok hn) psig7 (ts:=[.v (.one (.v 0))]) rfl (ys:=[.c (.i .u32 0)]) (us:=[.v (.one (.lit (.int .u32 0)))]) ⟨RK.i _ _,trivial⟩ (zs:=[]) (css:=[]) trivial wl0
 obtain ⟨a1,b1⟩:=r1
 match a1,b1,g2,g3 with
 |[.one c1],[],g2,_=>exact ⟨c1,g2.1,g1⟩
end
end Go.Ey.Pr

namespace Go.Ey.Pr
open Go.Ey Go.Ey.Kst
def en46:List K:=[k4,us,(.s 13 9221228509595491580678491038051),ke,kz,ke,ke,kz,(.b false),k0,ke,ke,k0,ke,ke,ke,ke,ke,kz,kz,kz,(.sl 11 [ap kl (.s 7 32481125787004265) [ap us (.s 2 30309) [va kl (.s 1 97),ap kl (.s 7 31078174686407012) [va kl (.s 1 99)] 1] 2,ap us (.s 2 30309) [va kl (.s 1 97),ap kl (.s 7 31078174686080867) [ap us (.s 5 495623299427) [va kl (.s 1 99)] 1] 1] 2] 2] 1),kz,kz,ke,ke,kz,(.sl 34 [[us,(.s 13 9221228509595491580678491038051),(kn 9),kz,us,(.s 2 30309),k0,ke,ke,k0,ke,ke,ke,ke,ke,kz,kz,k0,ke,ke,k0,ke,ke,ke,ke,ke,kz,kz,kz,k0,kz,k0,us,(.s 5 495623299427)]] 1),kz,kz,ke,u0]
def en45:List K:=[k4,us,(.s 12 36020423865607388987093119591),ke,kz,ke,ke,kz,(.b false),k0,ke,ke,k0,ke,ke,ke,ke,ke,kz,kz,kz,(.sl 11 [ap kl (.s 7 32481125787004265) [ap us (.s 2 30309) [va kl (.s 1 97),ap kl (.s 7 31078174686407012) [va kl (.s 1 99)] 1] 2,ap us (.s 2 30309) [va kl (.s 1 97),ap kl (.s 7 31078174686080867) [ap us (.s 4 2003792487) [va kl (.s 1 99)] 1] 1] 2] 2] 1),kz,kz,ke,ke,kz,(.sl 34 [[us,(.s 12 36020423865607388987093119591),(kn 9),kz,us,(.s 2 30309),k0,ke,ke,k0,ke,ke,ke,ke,ke,kz,kz,k0,ke,ke,k0,ke,ke,ke,ke,ke,kz,kz,kz,k0,kz,k0,us,(.s 4 2003792487)]] 1),kz,kz,ke,u0]
def en44:List K:=[k4,us,(.s 12 36020423865607388986790994291),ke,kz,ke,ke,kz,(.b false),k0,ke,ke,k0,ke,ke,ke,ke,ke,kz,kz,kz,(.sl 11 [ap kl (.s 7 32481125787004265) [ap us (.s 2 30309) [va kl (.s 1 97),ap kl (.s 7 31078174686407012) [va kl (.s 1 99)] 1] 2,ap us (.s 2 30309) [va kl (.s 1 97),ap kl (.s 7 31078174686080867) [ap us (.s 4 1701667187) [va kl (.s 1 99)] 1] 1] 2] 2] 1),kz,kz,ke,ke,kz,(.sl 34 [[us,(.s 12 36020423865607388986790994291),(kn 9),kz,us,(.s 2 30309),k0,ke,ke,k0,ke,ke,ke,ke,ke,kz,kz,k0,ke,ke,k0,ke,ke,ke,ke,ke,kz,kz,kz,k0,kz,k0,us,(.s 4 1701667187)]] 1),kz,kz,ke,u0]
def en43:List K:=[k3,us,(.s 5 495623299427),ke,kz,ke,ke,kz,(.b false),k0,ke,ke,k0,ke,ke,ke,ke,ke,kz,kz,(.sl 37 [[us,(.s 5 495623299427),(.sl 2 [[kl,(.s 1 99)]] 1),k1,k2,ke,ke,k2,ke,ke,kl,(.s 1 116),ke,kz,kz,k3,kl,(.s 4 1936617315),k0,ke,ke,ke,ke,ke,kz,(.sl 11 [ap kl (.s 4 1936617315) [[k2,ke,ke,k2,ke,ke,kl,(.s 3 7104878),ke,kz,kz],ap kl (.s 4 1936617315) [va kl (.s 1 99),[k2,ke,ke,k4,ke,ke,ke,ke,ke,(.sl 7 [co nl ([k2,ke,ke,us,sx,ke,kz]),sy 3 7630702] 2),kz]] 2] 2,ap kl (.s 4 1936617315) [va kl (.s 1 99),[k2,ke,ke,k2,ke,ke,us,sx,ke,kz,kz]] 2] 2),k0,ke,ke,k0,ke,ke,ke,ke,ke,kz,kz]] 1),kz,kz,kz,ke,ke,kz,kz,kz,kz,ke,u0]
def en42:List K:=[k3,us,(.s 4 2003792487),ke,kz,ke,ke,kz,(.b false),k0,ke,ke,k0,ke,ke,ke,ke,ke,kz,kz,(.sl 37 [[us,(.s 4 2003792487),(.sl 2 [[kl,(.s 1 99)]] 1),k1,k2,ke,ke,k2,ke,ke,kl,(.s 1 116),ke,kz,kz,k3,kl,(.s 4 1936617315),k0,ke,ke,ke,ke,ke,kz,(.sl 11 [[k2,ke,ke,k2,ke,ke,kl,(.s 3 7104878),ke,kz,kz],ap kl (.s 4 1936617315) [va kl (.s 1 99),[k2,ke,ke,k4,ke,ke,ke,ke,ke,(.sl 7 [co nl nl,sy 5 435745158513] 2),kz]] 2] 2),k0,ke,ke,k0,ke,ke,ke,ke,ke,kz,kz]] 1),kz,kz,kz,ke,ke,kz,kz,kz,kz,ke,u0]
def en41:List K:=[k3,us,(.s 4 1701667187),ke,kz,ke,ke,kz,(.b false),k0,ke,ke,k0,ke,ke,ke,ke,ke,kz,kz,(.sl 37 [[us,(.s 4 1701667187),(.sl 2 [[kl,(.s 1 99)]] 1),k1,k2,ke,ke,k2,ke,ke,kl,(.s 1 116),ke,kz,kz,k3,kl,(.s 4 1936617315),k0,ke,ke,ke,ke,ke,kz,(.sl 11 [[k2,ke,ke,k2,ke,ke,kl,(.s 3 7104878),ke,kz,kz],va kl (.s 1 99)] 2),k0,ke,ke,k0,ke,ke,ke,ke,ke,kz,kz]] 1),kz,kz,kz,ke,ke,kz,kz,kz,kz,ke,u0]
def en40:List K:=[(kn 5),us,(.s 14 2341701742020069038243121946523237),ke,kz,ke,ke,kz,(.b false),k0,ke,ke,k0,ke,ke,ke,ke,ke,kz,kz,(.sl 37 [[us,(.s 2 30309),(.sl 2 [[kl,(.s 1 97)],[kl,sx]] 2),k2,k2,ke,ke,k2,ke,ke,kl,(.s 1 116),ke,kz,kz,k0,ke,ke,k0,ke,ke,ke,ke,ke,kz,kz,k0,ke,ke,k0,ke,ke,ke,ke,ke,kz,kz]] 1),(.sl 11 [ap kl (.s 7 32481125787004265) [ap kl (.s 5 465491554661) [ap kl (.s 3 7630702) [ap us (.s 2 30309) [va kl (.s 1 97),ap kl (.s 3 7496035) [ap kl (.s 3 7496803) [va kl sx] 1] 1] 2] 1,ap us (.s 2 30309) [va kl (.s 1 97),va kl sx] 2] 2,ap kl (.s 2 26217) [[k2,ke,ke,k2,ke,ke,kl,(.s 3 7104878),ke,kz,kz],ap kl (.s 5 465491554661) [[k2,ke,ke,k2,ke,ke,kl,(.s 3 7630702),ke,kz,kz],ap kl (.s 3 7496035) [va kl sx] 1] 2,ap kl (.s 5 482972954467) [va kl sx] 1] 3] 2,ap kl (.s 7 32481125787004265) [ap kl (.s 5 465491554661) [ap kl (.s 2 26217) [ap us (.s 2 30309) [va kl (.s 1 97),ap kl (.s 3 7496035) [ap kl (.s 3 7496803) [ap kl (.s 3 7496803) [ap kl (.s 3 7496803) [va kl sx] 1] 1] 1] 1] 2,ap us (.s 2 30309) [va kl (.s 1 97),ap kl (.s 3 7496035) [ap kl (.s 3 7496803) [ap kl (.s 3 7496803) [va kl sx] 1] 1] 1] 2,ap us (.s 2 30309) [va kl (.s 1 97),ap kl (.s 3 7496035) [ap kl (.s 3 7496803) [va kl sx] 1] 1] 2] 3,ap us (.s 2 30309) [va kl (.s 1 97),va kl sx] 2] 2,ap kl (.s 2 26217) [[k2,ke,ke,k2,ke,ke,kl,(.s 3 7104878),ke,kz,kz],ap kl (.s 5 465491554661) [[k2,ke,ke,k2,ke,ke,kl,(.s 2 26217),ke,kz,kz],ap kl (.s 3 7496035) [va kl sx] 1] 2,ap kl (.s 5 482972954467) [va kl sx] 1] 3] 2,ap kl (.s 7 32481125787004265) [ap kl (.s 5 465491554661) [ap kl (.s 3 7496035) [ap kl (.s 3 7496803) [va kl sx] 1] 1,ap us (.s 2 30309) [va kl (.s 1 97),va kl sx] 2] 2,ap kl (.s 2 26217) [[k2,ke,ke,k2,ke,ke,kl,(.s 3 7104878),ke,kz,kz],ap kl (.s 5 465491554661) [[k2,ke,ke,k2,ke,ke,kl,(.s 5 435745158513),ke,kz,kz],ap kl (.s 3 7496035) [va kl sx] 1] 2,ap kl (.s 5 482972954467) [va kl sx] 1] 3] 2,ap kl (.s 7 32481125787004265) [ap kl (.s 5 465491554661) [ap kl (.s 2 26217) [[k2,ke,ke,k2,ke,ke,kl,(.s 3 7104878),ke,kz,kz],ap kl (.s 3 7496803) [ap kl (.s 11 131024224507261934500016993) [va kl (.s 1 97),va kl sx] 2] 1,va kl sx] 3,ap us (.s 2 30309) [va kl (.s 1 97),va kl sx] 2] 2,ap kl (.s 7 31644423040104819) [va kl sx] 1] 2] 4),kz,kz,ke,ke,kz,kz,kz,kz,ke,u0]
def en39:List K:=[k3,kl,(.s 7 31078174686080867),ke,kz,ke,ke,kz,(.b false),k0,ke,ke,k0,ke,ke,ke,ke,ke,kz,kz,(.sl 37 [[kl,(.s 7 31078174686080867),(.sl 2 [[kl,(.s 1 108)]] 1),k1,k2,ke,ke,k2,ke,ke,kl,(.s 1 116),ke,kz,kz,k3,kl,(.s 2 26217),k0,ke,ke,ke,ke,ke,kz,(.sl 11 [[k2,ke,ke,k4,ke,ke,ke,ke,ke,(.sl 7 [co nl (sy 1 116),sy 5 435745158513] 2),kz],ap kl (.s 4 1936617315) [ap kl (.s 4 1936617315) [ap kl (.s 4 1936617315) [ap kl (.s 4 1936617315) [[k2,ke,ke,k2,ke,ke,kl,(.s 3 7104878),ke,kz,kz],[k2,ke,ke,k4,ke,ke,ke,ke,ke,(.sl 7 [co nl nl,sy 5 435745158513] 2),kz]] 2,ap kl (.s 7 31078174686080867) [ap kl (.s 3 7496803) [va kl (.s 1 108)] 1] 1] 2,ap kl (.s 7 31078174686407012) [ap kl (.s 3 7496035) [va kl (.s 1 108)] 1] 1] 2,[k2,ke,ke,k2,ke,ke,kl,(.s 2 26217),ke,kz,kz]] 2,ap kl (.s 5 482972954467) [va kl (.s 1 108)] 1] 3),k3,kl,(.s 5 500069396323),k0,ke,ke,ke,ke,ke,kz,(.sl 11 [va kl (.s 1 108)] 1)]] 1),kz,kz,kz,ke,ke,kz,kz,kz,kz,ke,u0]
def en38:List K:=[k3,kl,(.s 7 31078174686407012),ke,kz,ke,ke,kz,(.b false),k0,ke,ke,k0,ke,ke,ke,ke,ke,kz,kz,(.sl 37 [[kl,(.s 7 31078174686407012),(.sl 2 [[kl,(.s 1 99)]] 1),k1,k2,ke,ke,k2,ke,ke,kl,(.s 1 116),ke,kz,kz,k3,kl,(.s 2 26217),k0,ke,ke,ke,ke,ke,kz,(.sl 11 [[k2,ke,ke,k4,ke,ke,ke,ke,ke,(.sl 7 [co nl nl,sy 5 435745158513] 2),kz],ap kl (.s 4 1936617315) [ap kl (.s 4 1936617315) [ap kl (.s 4 1936617315) [ap kl (.s 4 1936617315) [[k2,ke,ke,k2,ke,ke,kl,(.s 3 7104878),ke,kz,kz],ap kl (.s 7 31078174686407012) [ap kl (.s 3 7496803) [va kl (.s 1 99)] 1] 1] 2,[k2,ke,ke,k4,ke,ke,ke,ke,ke,(.sl 7 [co nl (sy 1 116),sy 5 435745158513] 2),kz]] 2,ap kl (.s 3 7496035) [va kl (.s 1 99)] 1] 2,[k2,ke,ke,k2,ke,ke,kl,(.s 2 26217),ke,kz,kz]] 2,ap kl (.s 5 482972954467) [va kl (.s 1 99)] 1] 3),k3,kl,(.s 5 500069396323),k0,ke,ke,ke,ke,ke,kz,(.sl 11 [va kl (.s 1 99)] 1)]] 1),kz,kz,kz,ke,ke,kz,kz,kz,kz,ke,u0]
def waE:List (List K):=[en46,en45,en44,en43,en42,en41,en40,en39,en38]++wlE
def waK:K:=.sl 32 waE 47
def lfK:K:=(.sl 2 [[kl,(.s 3 7630702)],[kl,(.s 2 26217)]] 2)
def vxL:List K:=[k1,us,sx,k0,ke,ke,ke,ke,ke,kz,kz]
def vyL:List K:=[k1,us,(.s 1 121),k0,ke,ke,ke,ke,ke,kz,kz]
def nyL:List K:=[k3,kl,(.s 3 7630702),k0,ke,ke,ke,ke,ke,kz,(.sl 11 [va us (.s 1 121)] 1)]
def c6K:K:=.sl 11 [nyL,vxL] 2
def smL:List K:=[us,(.s 4 1701667187)]
def qdL:List K:=co (co nl (co (co nl ([k2,ke,ke,us,(.s 1 121),ke,kz])) (sy 3 7630702))) ([k2,ke,ke,us,sx,ke,kz])
def obL:List K:=co nl (co (co nl (co (co nl ([k2,ke,ke,us,(.s 1 121),ke,kz])) (sy 3 7630702))) ([k2,ke,ke,us,sx,ke,kz]))
def unK:K:=(.sl 1 [[(.sl 11 [ap kl (.s 3 7630702) [va us (.s 1 121)] 1,va us sx] 2)]] 1)
end Go.Ey.Pr

namespace Go.Ey.Pr
open Go.Ey
theorem a18:(krun kgD 3000).fn 18 [.c kz] []=.ret [.c lfK] []:=by kernel_rfl
theorem a29x:(krun kgD 3000).fn 29 [.c (.s 1 120)] []=.ret [.l 11 vxL] []:=by kernel_rfl
theorem a29y:(krun kgD 3000).fn 29 [.c (.s 1 121)] []=.ret [.l 11 vyL] []:=by kernel_rfl
theorem a30:(krun kgD 3000).fn 30 [.c (.s 3 7630702),.c (.sl 11 [vyL] 1)] []=.ret [.l 11 nyL] []:=by kernel_rfl
theorem a19:(krun kgD 3000).fn 19 [.c (.s 4 1701667187)] []=.ret [.l 2 smL] []:=by kernel_rfl
theorem a43:(krun kgD 3000).fn 43 [.c c6K] []=.ret [.c (.b true)] []:=by kernel_rfl
theorem a10:(krun kgD 3000).fn 10 [.c c6K] []=.ret [.l 7 qdL] []:=by kernel_rfl
theorem a90:(krun kgD 3000).fn 90 [.l 7 qdL] []=.ret [.c (.b true)] []:=by kernel_rfl
theorem a13:(krun kgD 3000).fn 13 [.l 7 obL] []=.ret [.c unK,.c (.b true)] []:=by kernel_rfl
theorem a15:(krun kgD 3000).fn 15 [.c unK,.c (.sl 1 [[c6K]] 1)] []=.ret [.c (.b true)] []:=by kernel_rfl
end Go.Ey.Pr

namespace Go.Ey.Pr
open Go.Ey
theorem a28:(krun kgD 3000).fn 28 [.c lfK] []=.ret [.c waK] []:=by kernel_rfl
end Go.Ey.Pr

namespace Go.Ey.Pr
open Go.Ey Go.Ey.Seat
section
variable {nat:Nat→List V→Option (List V)}
theorem psig18:(T nat).psig 18=some [.one]:=by kernel_rfl
theorem psig28:(T nat).psig 28=some [.one]:=by kernel_rfl
theorem psig29:(T nat).psig 29=some [.one]:=by kernel_rfl
theorem psig30:(T nat).psig 30=some [.one,.one]:=by kernel_rfl
theorem psig19:(T nat).psig 19=some [.one]:=by kernel_rfl
theorem psig43:(T nat).psig 43=some [.one]:=by kernel_rfl
theorem psig10:(T nat).psig 10=some [.one]:=by kernel_rfl
theorem psig90:(T nat).psig 90=some [.agg 7]:=by kernel_rfl
theorem psig13:(T nat).psig 13=some [.agg 7]:=by kernel_rfl
theorem psig15:(T nat).psig 15=some [.one,.one]:=by kernel_rfl
structure NatA (nat:Nat→List V→Option (List V)):Prop extends NatI nat where
 app:∀cw cf cq,RK waK cw→RKs smL cf→RK (.sl 7 [qdL] 1) cq→∃co a,RKs obL co∧nat 91 [.one cw,.agg cf,.one cq,.one (intC 100)]=some [.agg co,.one a,.one (intC 0)]
theorem RKs.length:∀{xs:List K} {cs:List C},RKs xs cs→cs.length=xs.length
 |_,_,.nil=>rfl
 |_,_,.cons _ h=>by simp [RKs.length h]
section
variable (hn:NatI nat)
include hn
theorem kc1 {f n:Nat} {p:List PS} (hp:(T nat).psig f=some p) {ts:List TA} (hf:fits p ts=true) {ys:List KW} {us:List LA} (hr:RLs ts ys us) {x:K} (hk:(krun kgD n).fn f ys []=.ret [.c x] []):
  ∃c,RK x c∧fnT (T nat).G f us []=some ([.one c],[]):=by
 obtain ⟨r1,g1,g2,g3⟩:=krun_fn (kgD_ok hn) hp hf hr (zs:=[]) (css:=[]) trivial hk
 obtain ⟨a1,b1⟩:=r1
 match a1,b1,g2,g3 with
 |[.one c1],[],g2,_=>exact ⟨c1,g2.1,g1⟩
theorem kcl {f n:Nat} {p:List PS} (hp:(T nat).psig f=some p) {ts:List TA} (hf:fits p ts=true) {ys:List KW} {us:List LA} (hr:RLs ts ys us) {m:Nat} {xs:List K} (hk:(krun kgD n).fn f ys []=.ret [.l m xs] []):
  ∃cs,RKs xs cs∧fnT (T nat).G f us []=some ([.agg cs],[]):=by
 obtain ⟨r1,g1,g2,g3⟩:=krun_fn (kgD_ok hn) hp hf hr (zs:=[]) (css:=[]) trivial hk
 obtain ⟨a1,b1⟩:=r1
 match a1,b1,g2,g3 with
 |[.agg c1],[],g2,_=>exact ⟨c1,g2.1.1,g1⟩
theorem kc2 {f n:Nat} {p:List PS} (hp:(T nat).psig f=some p) {ts:List TA} (hf:fits p ts=true) {ys:List KW} {us:List LA} (hr:RLs ts ys us) {x y:K} (hk:(krun kgD n).fn f ys []=.ret [.c x,.c y] []):
  ∃c d,RK x c∧RK y d∧fnT (T nat).G f us []=some ([.one c,.one d],[]):=by
 obtain ⟨r1,g1,g2,g3⟩:=krun_fn (kgD_ok hn) hp hf hr (zs:=[]) (css:=[]) trivial hk
 obtain ⟨a1,b1⟩:=r1
 match a1,b1,g2,g3 with
 |[.one c1,.one d1],[],g2,_=>exact ⟨c1,d1,g2.1,g2.2.1,g1⟩
end
def t31:TFun:=⟨[.one,.agg 2,.one,.one],[],
 .call 43 [(.v (.one (.v 2)))] [] [none] [] <|
 .opc (.un .not (.v 4)) <|
 .ite (.v 5)
 (.ret [(.one .z),(.one (.k (.int .i64 1)))] [])
 (.call 10 [(.v (.one (.v 2)))] [] [(some 7)] [] <|
 .call 90 [(.v (.agg (.all 6)))] [] [none] [] <|
 .opc (.un .not (.v 7)) <|
 .ite (.v 8)
 (.ret [(.one .z),(.one (.k (.int .i64 1)))] [])
 (.opc (.lits 7 1 [(.n 6 0),(.n 6 1),(.n 6 2),(.n 6 3),(.n 6 4),(.n 6 5),(.n 6 6)]) <|
 .call 91 [(.v (.one (.v 0))),(.v (.agg (.all 1))),(.v (.one (.v 9))),(.v (.one (.v 3)))] [] [(some 7),none,none] [] <|
 .opc (.bin .neq false (.v 12) (.k (.int .i64 0))) <|
 .ite (.v 13)
 (.ret [(.one .z),(.one (.v 12))] [])
 (.call 13 [(.v (.agg (.all 10)))] [] [none,none] [] <|
 .opc (.un .not (.v 15)) <|
 .ite (.v 16)
 (.ret [(.one .z),(.one (.k (.int .i64 46)))] [])
 (.ret [(.one (.v 14)),(.one (.k (.int .i64 0)))] [])))),
 []⟩
theorem tree31:(T nat).G.fn 31=some t31:=by kernel_rfl
def t6:TFun:=⟨[],[],
 .call 18 [(.v (.one .z))] [] [none] [] <|
 .call 28 [(.v (.one (.v 0)))] [] [none] [] <|
 .call 29 [(.v (.one (.k (.string ⟨#[120]⟩))))] [] [(some 11)] [] <|
 .call 29 [(.v (.one (.k (.string ⟨#[121]⟩))))] [] [(some 11)] [] <|
 .opc (.lits 11 1 [(.n 3 0),(.n 3 1),(.n 3 2),(.n 3 3),(.n 3 4),(.n 3 5),(.n 3 6),(.n 3 7),(.n 3 8),(.n 3 9),(.n 3 10)]) <|
 .call 30 [(.v (.one (.k (.string ⟨#[110,111,116]⟩)))),(.v (.one (.v 4)))] [] [(some 11)] [] <|
 .opc (.lits 11 2 [(.n 2 0),(.n 2 1),(.n 2 2),(.n 2 3),(.n 2 4),(.n 2 5),(.n 2 6),(.n 2 7),(.n 2 8),(.n 2 9),(.n 2 10),(.n 5 0),(.n 5 1),(.n 5 2),(.n 5 3),(.n 5 4),(.n 5 5),(.n 5 6),(.n 5 7),(.n 5 8),(.n 5 9),(.n 5 10)]) <|
 .call 19 [(.v (.one (.k (.string ⟨#[115,97,109,101]⟩))))] [] [(some 2)] [] <|
 .call 31 [(.v (.one (.v 1))),(.v (.agg (.all 7))),(.v (.one (.v 6))),(.v (.one (.k (.int .i64 100))))] [] [none,none] [] <|
 .opc (.bin .eql false (.v 9) (.k (.int .i64 0))) <|
 .ite (.v 10)
 (.opc (.lits 1 1 [(.v 6)]) <|
 .call 15 [(.v (.one (.v 8))),(.v (.one (.v 11)))] [] [none] [] <|
 .ret [(.one (.v 12))] [])
 (.ret [(.one (.k (.bool false)))] []),
 []⟩
theorem tree6:(T nat).G.fn 6=some t6:=by kernel_rfl
theorem fmt91 (hn:NatA nat):∀cw cf cq,RK waK cw→RKs smL cf→RK (.sl 7 [qdL] 1) cq→∃co a,RKs obL co∧fnT (T nat).G 91 [.v (.one cw),.v (.agg cf),.v (.one cq),.v (.one (intC 100))] []=some ([.agg co,.one a,.one (intC 0)],[]):=by
 intro cw cf cq h1 h2 h3
 obtain ⟨co,a,h4,h5⟩:=hn.app cw cf cq h1 h2 h3
 refine ⟨co,a,h4,fnT_nat (show (T nat).G.fn 91=none by kernel_rfl) ?_⟩
 have hl:cf.length=2:=RKs.length h2
 obtain ⟨s,k1,k2,k3,k4⟩:∃s,(T nat).sig 91=some s∧s.nat=true∧s.boxes=[]∧s.params=[.one,.agg 2,.one,.one]:=⟨s91,by kernel_rfl,rfl,rfl,rfl⟩
 show (T nat).natG 91 [.v (.one cw),.v (.agg cf),.v (.one cq),.v (.one (intC 100))] []=_
 have h6:(T nat).nat 91 [.one cw,.agg cf,.one cq,.one (intC 100)]=some [.agg co,.one a,.one (intC 0)]:=h5
 simp [Seat.natG,k1,k2,k3,k4,shapeB,laVs,h6,hl]
theorem rk_row1 {e:Nat} {xs:List K} {cs:List C} (h:RKs xs cs) (he:xs.length=e):RK (.sl e [xs] 1) (.slice cs 1):=by
 have:=RKr.cons h he (RKr.nil (esz:=e))
 exact RK.sl e [xs] 1 _ this rfl
theorem rk_row2 {e:Nat} {xs ys:List K} {cs ds:List C} (h:RKs xs cs) (g:RKs ys ds) (he:xs.length=e) (hg:ys.length=e):RK (.sl e [ys,xs] 2) (.slice (cs++ds) 2):=by
 have h1:=RKr.cons h he (RKr.nil (esz:=e))
 have h2:=RKr.cons g hg h1
 exact RK.sl e [ys,xs] 2 _ h2 rfl
theorem run31 (hn:NatA nat):∀cw cf cc,RK waK cw→RKs smL cf→RK c6K cc→∃cu,RK unK cu∧fnT (T nat).G 31 [.v (.one cw),.v (.agg cf),.v (.one cc),.v (.one (intC 100))] []=some ([.one cu,.one (intC 0)],[]):=by
 intro cw cf cc h1 h2 h3
 obtain ⟨c43,b43,f43⟩:=kc1 hn.toNatI psig43 (ts:=[.v (.one (.v 0))]) rfl (ys:=[.c c6K]) (us:=[.v (.one cc)]) ⟨h3,trivial⟩ a43
 obtain ⟨c10,b10,f10⟩:=kcl hn.toNatI psig10 (ts:=[.v (.one (.v 0))]) rfl (ys:=[.c c6K]) (us:=[.v (.one cc)]) ⟨h3,trivial⟩ a10
 obtain ⟨c90,b90,f90⟩:=kc1 hn.toNatI psig90 (ts:=[.v (.agg (.all 0))]) rfl (ys:=[.l 7 qdL]) (us:=[.v (.agg c10)]) ⟨⟨b10,rfl⟩,trivial⟩ a90
 have hl10:c10.length=7:=RKs.length b10
 obtain ⟨co,a,b91,f91⟩:=fmt91 hn cw cf (.slice c10 1) h1 h2 (rk_row1 b10 rfl)
 have hlo:co.length=7:=RKs.length b91
 obtain ⟨c13,d13,b13,e13,f13⟩:=kc2 hn.toNatI psig13 (ts:=[.v (.agg (.all 0))]) rfl (ys:=[.l 7 obL]) (us:=[.v (.agg co)]) ⟨⟨b91,rfl⟩,trivial⟩ a13
 refine ⟨c13,b13,?_⟩
 rw [b43.bool] at f43
 rw [b90.bool] at f90
 rw [e13.bool] at f13
 have hl2:cf.length=2:=RKs.length h2
 have e10:[nthC c10 0,nthC c10 1,nthC c10 2,nthC c10 3,nthC c10 4,nthC c10 5,nthC c10 6]=c10:=by
  match c10,hl10 with
  |[_,_,_,_,_,_,_],_=>rfl
 simp only [intC] at f91
 rw [fnT_eq tree31]
 simp [bodyT,t31,entryA,entryB,denT,taDs,taD,tvDs,tvD,slD,slDs,atC,atCs,opcD,getW,f43,f10,f90,f91,f13,sized,bindVs,bindBs,getOne,getAgg,hl10,hlo,hl2,unC,unV,iteC,litsC,roomMax,e10,binC,binV,isShift,intBin,intC]
theorem lisT (hn:NatA nat):fnT (T nat).G 6 [] []=some ([.one (.lit (.bool true))],[]):=by
 obtain ⟨c18,b18,f18⟩:=kc1 hn.toNatI psig18 (ts:=[.v (.one (.v 0))]) rfl (ys:=[.c kz]) (us:=[.v (.one (.slice [] 0))]) ⟨RK.sl 0 [] 0 [] RKr.nil rfl,trivial⟩ a18
 obtain ⟨c28,b28,f28⟩:=kc1 hn.toNatI psig28 (ts:=[.v (.one (.v 0))]) rfl (ys:=[.c lfK]) (us:=[.v (.one c18)]) ⟨b18,trivial⟩ a28
 obtain ⟨cx,bx,fx⟩:=kcl hn.toNatI psig29 (ts:=[.v (.one (.v 0))]) rfl (ys:=[.c (.s 1 120)]) (us:=[.v (.one (.lit (.string ⟨#[120]⟩)))]) ⟨RK.s 1 120 _ (by decide) (by decide),trivial⟩ a29x
 obtain ⟨cy,bY,fy⟩:=kcl hn.toNatI psig29 (ts:=[.v (.one (.v 0))]) rfl (ys:=[.c (.s 1 121)]) (us:=[.v (.one (.lit (.string ⟨#[121]⟩)))]) ⟨RK.s 1 121 _ (by decide) (by decide),trivial⟩ a29y
 obtain ⟨cn,bn,f30⟩:=kcl hn.toNatI psig30 (ts:=[.v (.one (.v 0)),.v (.one (.v 0))]) rfl (ys:=[.c (.s 3 7630702),.c (.sl 11 [vyL] 1)]) (us:=[.v (.one (.lit (.string ⟨#[110,111,116]⟩))),.v (.one (.slice cy 1))]) ⟨RK.s 3 7630702 _ (by decide) (by decide),rk_row1 bY rfl,trivial⟩ a30
 obtain ⟨cs,bs,f19⟩:=kcl hn.toNatI psig19 (ts:=[.v (.one (.v 0))]) rfl (ys:=[.c (.s 4 1701667187)]) (us:=[.v (.one (.lit (.string ⟨#[115,97,109,101]⟩)))]) ⟨RK.s 4 1701667187 _ (by decide) (by decide),trivial⟩ a19
 have b6:RK c6K (.slice (cx++cn) 2):=rk_row2 bx bn rfl rfl
 obtain ⟨cu,bu,f31⟩:=run31 hn c28 cs _ b28 bs b6
 obtain ⟨c15,b15,f15⟩:=kc1 hn.toNatI psig15 (ts:=[.v (.one (.v 0)),.v (.one (.v 0))]) rfl (ys:=[.c unK,.c (.sl 1 [[c6K]] 1)]) (us:=[.v (.one cu),.v (.one (.slice [.slice (cx++cn) 2] 1))]) ⟨bu,rk_row1 (.cons b6 .nil) rfl,trivial⟩ a15
 rw [b15.bool] at f15
 have lx:cx.length=11:=RKs.length bx
 have ly:cy.length=11:=RKs.length bY
 have ln:cn.length=11:=RKs.length bn
 have ls:cs.length=2:=RKs.length bs
 have ey:[nthC cy 0,nthC cy 1,nthC cy 2,nthC cy 3,nthC cy 4,nthC cy 5,nthC cy 6,nthC cy 7,nthC cy 8,nthC cy 9,nthC cy 10]=cy:=by
  match cy,ly with
  |[_,_,_,_,_,_,_,_,_,_,_],_=>rfl
 have ex:[nthC cx 0,nthC cx 1,nthC cx 2,nthC cx 3,nthC cx 4,nthC cx 5,nthC cx 6,nthC cx 7,nthC cx 8,nthC cx 9,nthC cx 10,nthC cn 0,nthC cn 1,nthC cn 2,nthC cn 3,nthC cn 4,nthC cn 5,nthC cn 6,nthC cn 7,nthC cn 8,nthC cn 9,nthC cn 10]=cx++cn:=by
  match cx,lx,cn,ln with
  |[_,_,_,_,_,_,_,_,_,_,_],_,[_,_,_,_,_,_,_,_,_,_,_],_=>rfl
 simp only [intC] at f31
 rw [fnT_eq tree6]
 simp [bodyT,t6,entryA,entryB,denT,taDs,taD,tvDs,tvD,slD,slDs,atC,atCs,opcD,getW,f18,f28,fx,fy,f30,f19,f31,f15,sized,bindVs,bindBs,getOne,getAgg,lx,ly,ln,ls,unC,unV,iteC,litsC,roomMax,ex,ey,binC,binV,isShift,intBin]
end
end Go.Ey.Pr

namespace Go.Ey.Pr
open Go.Ey Go.Ey.Seat
section
variable {nat:Nat→List V→Option (List V)}
def t4:TFun:=⟨[.one],[],
 .call 6 [] [] [none] [] <|
 .opc (.un .not (.v 1)) <|
 .ite (.v 2)
 (.ret [(.one (.k (.bool false)))] [])
 (.opc (.len false (.v 0)) <|
 .opc (.bin .gtr false (.v 3) (.k (.int .i64 60))) <|
 .ite (.v 4)
 (.ret [(.one (.k (.bool true)))] [])
 (.call 16 [(.ref 0 0),(.v (.one (.k (.int .i64 4))))] [(.lit [(.v 0),(.k (.int .i64 0))])] [(some 7)] [2] <|
 .call 16 [(.ref 0 0),(.v (.one (.k (.int .i64 2))))] [(.all 6)] [(some 7)] [2] <|
 .call 16 [(.ref 0 0),(.v (.one (.k (.int .i64 2))))] [(.all 8)] [(some 7)] [2] <|
 .opc (.lits 7 2 [(.n 7 0),(.n 7 1),(.n 7 2),(.n 7 3),(.n 7 4),(.n 7 5),(.n 7 6),(.n 9 0),(.n 9 1),(.n 9 2),(.n 9 3),(.n 9 4),(.n 9 5),(.n 9 6)]) <|
 .call 14 [(.v (.one (.v 11)))] [] [(some 7)] [] <|
 .opc (.lits 7 1 [(.n 12 0),(.n 12 1),(.n 12 2),(.n 12 3),(.n 12 4),(.n 12 5),(.n 12 6)]) <|
 .call 14 [(.v (.one (.v 13)))] [] [(some 7)] [] <|
 .call 16 [(.ref 0 0),(.v (.one (.k (.int .i64 2))))] [(.all 10)] [(some 7)] [2] <|
 .opc (.lits 7 1 [(.n 15 0),(.n 15 1),(.n 15 2),(.n 15 3),(.n 15 4),(.n 15 5),(.n 15 6)]) <|
 .call 14 [(.v (.one (.v 17)))] [] [(some 7)] [] <|
 .opc (.lits 7 3 [(.n 5 0),(.n 5 1),(.n 5 2),(.n 5 3),(.n 5 4),(.n 5 5),(.n 5 6),(.n 14 0),(.n 14 1),(.n 14 2),(.n 14 3),(.n 14 4),(.n 14 5),(.n 14 6),(.n 18 0),(.n 18 1),(.n 18 2),(.n 18 3),(.n 18 4),(.n 18 5),(.n 18 6)]) <|
 .opc (.len false (.v 19)) <|
 .goto 0 [(.c (.v 20)),(.c (.k (.int .i64 0))),(.c (.v 19))])),
 [.opc (.bin .lss false (.v 1) (.v 0)) <|
 .ite (.v 3)
 (.row 7 (.v 2) (.v 1) <|
 .row 7 (.v 2) (.v 1) <|
 .call 13 [(.v (.agg (.all 5)))] [] [none,none] [] <|
 .call 17 [(.v (.agg (.all 5)))] [] [none,none] [] <|
 .opc (.bin .neq true (.v 7) (.v 9)) <|
 .ite (.v 10)
 (.ret [(.one (.k (.bool false)))] [])
 (.call 15 [(.v (.one (.v 6))),(.v (.one (.v 8)))] [] [none] [] <|
 .opc (.un .not (.v 11)) <|
 .ite (.v 12)
 (.ret [(.one (.k (.bool false)))] [])
 (.opc (.bin .add false (.v 1) (.k (.int .i64 1))) <|
 .goto 0 [(.c (.v 0)),(.c (.v 13)),(.c (.v 2))])))
 (.ret [(.one (.k (.bool true)))] [])]⟩
def t11:TFun:=⟨[.agg 7,.agg 7],[],
 .opc (.bin .neq false (.n 0 0) (.n 1 0)) <|
 .ite (.v 2)
 (.ret [(.one (.k (.bool false)))] [])
 (.opc (.bin .neq false (.n 0 1) (.n 1 1)) <|
 .ite (.v 3)
 (.ret [(.one (.k (.bool false)))] [])
 (.opc (.bin .neq false (.n 0 2) (.n 1 2)) <|
 .ite (.v 4)
 (.ret [(.one (.k (.bool false)))] [])
 (.opc (.eqs [1,1] true (.lit [(.n 0 3),(.n 0 4)]) (.lit [(.n 1 3),(.n 1 4)])) <|
 .ite (.v 5)
 (.ret [(.one (.k (.bool false)))] [])
 (.opc (.bin .neq false (.n 0 5) (.n 1 5)) <|
 .ite (.v 6)
 (.ret [(.one (.k (.bool false)))] [])
 (.opc (.len false (.n 0 6)) <|
 .opc (.len false (.n 1 6)) <|
 .opc (.bin .neq false (.v 7) (.v 8)) <|
 .ite (.v 9)
 (.ret [(.one (.k (.bool false)))] [])
 (.goto 0 [(.c (.k (.int .i64 0))),(.l (.all 0)),(.l (.all 1))])))))),
 [.opc (.len false (.n 1 6)) <|
 .opc (.bin .lss false (.v 0) (.v 3)) <|
 .ite (.v 4)
 (.row 7 (.n 1 6) (.v 0) <|
 .row 7 (.n 2 6) (.v 0) <|
 .call 11 [(.v (.agg (.all 5))),(.v (.agg (.all 6)))] [] [none] [] <|
 .opc (.un .not (.v 7)) <|
 .ite (.v 8)
 (.ret [(.one (.k (.bool false)))] [])
 (.opc (.bin .add false (.v 0) (.k (.int .i64 1))) <|
 .goto 0 [(.c (.v 9)),(.l (.all 1)),(.l (.all 2))]))
 (.ret [(.one (.k (.bool true)))] [])]⟩
theorem tree11:(T nat).G.fn 11=some t11:=by kernel_rfl
def t19:TFun:=⟨[.one],[],
 .ret [(.agg (.lit [(.k (.string ⟨#[117,115,101,114]⟩)),(.v 0)]))] [],
 []⟩
theorem tree19:(T nat).G.fn 19=some t19:=by kernel_rfl
def t26:TFun:=⟨[.one,.one],[],
 .opc (.len false (.v 0)) <|
 .opc (.len false (.v 1)) <|
 .opc (.bin .neq false (.v 2) (.v 3)) <|
 .ite (.v 4)
 (.ret [(.one (.k (.bool false)))] [])
 (.goto 0 [(.c (.v 0)),(.c (.v 1)),(.c (.k (.int .i64 0)))]),
 [.opc (.len false (.v 0)) <|
 .opc (.bin .lss false (.v 2) (.v 3)) <|
 .ite (.v 4)
 (.row 11 (.v 0) (.v 2) <|
 .row 11 (.v 1) (.v 2) <|
 .call 84 [(.v (.agg (.all 5))),(.v (.agg (.all 6)))] [] [none] [] <|
 .opc (.un .not (.v 7)) <|
 .ite (.v 8)
 (.ret [(.one (.k (.bool false)))] [])
 (.opc (.bin .add false (.v 2) (.k (.int .i64 1))) <|
 .goto 0 [(.c (.v 0)),(.c (.v 1)),(.c (.v 9))]))
 (.ret [(.one (.k (.bool true)))] [])]⟩
theorem tree26:(T nat).G.fn 26=some t26:=by kernel_rfl
def t44:TFun:=⟨[],[],
 .call 94 [(.v (.one (.k (.string ⟨#[110,105,108]⟩))))] [] [(some 2)] [] <|
 .call 49 [(.v (.agg (.all 0)))] [] [(some 7)] [] <|
 .ret [(.agg (.all 1))] [],
 []⟩
theorem tree44:(T nat).G.fn 44=some t44:=by kernel_rfl
def t46:TFun:=⟨[],[],
 .call 94 [(.v (.one (.k (.string ⟨#[116]⟩))))] [] [(some 2)] [] <|
 .call 49 [(.v (.agg (.all 0)))] [] [(some 7)] [] <|
 .ret [(.agg (.all 1))] [],
 []⟩
theorem tree46:(T nat).G.fn 46=some t46:=by kernel_rfl
def t47:TFun:=⟨[.one],[],
 .call 128 [(.v (.one (.v 0)))] [] [none] [] <|
 .call 48 [(.v (.one (.v 1))),(.v (.one (.k (.string ⟨#[49]⟩))))] [] [(some 7)] [] <|
 .ret [(.agg (.all 2))] [],
 []⟩
def t48:TFun:=⟨[.one,.one],[],
 .call 129 [(.v (.one (.v 0))),(.v (.one (.v 1)))] [] [none,none] [] <|
 .ret [(.agg (.lit [(.k (.int .i64 1)),(.v 2),(.v 3),(.k (.string ⟨#[]⟩)),(.k (.string ⟨#[]⟩)),(.k (.string ⟨#[]⟩)),.z]))] [],
 []⟩
def t49:TFun:=⟨[.agg 2],[],
 .ret [(.agg (.lit [(.k (.int .i64 2)),(.k (.string ⟨#[]⟩)),(.k (.string ⟨#[]⟩)),(.n 0 0),(.n 0 1),(.k (.string ⟨#[]⟩)),.z]))] [],
 []⟩
theorem tree49:(T nat).G.fn 49=some t49:=by kernel_rfl
def t50:TFun:=⟨[.one],[],
 .ret [(.agg (.lit [(.k (.int .i64 3)),(.k (.string ⟨#[]⟩)),(.k (.string ⟨#[]⟩)),(.k (.string ⟨#[]⟩)),(.k (.string ⟨#[]⟩)),(.v 0),.z]))] [],
 []⟩
def t51:TFun:=⟨[.agg 7],[],
 .goto 0 [(.l (.all 0)),(.c .z)],
 [.call 130 [(.v (.agg (.all 0)))] [] [none] [] <|
 .ite (.v 2)
 (.row 7 (.n 0 6) (.k (.int .i64 0)) <|
 .opc (.lits 7 1 [(.n 3 0),(.n 3 1),(.n 3 2),(.n 3 3),(.n 3 4),(.n 3 5),(.n 3 6)]) <|
 .opc (.app 7 112 (.v 1) (.v 4)) <|
 .row 7 (.n 0 6) (.k (.int .i64 1)) <|
 .goto 0 [(.l (.all 6)),(.c (.v 5))])
 (.call 131 [(.v (.agg (.all 0)))] [] [none] [] <|
 .opc (.un .not (.v 3)) <|
 .ite (.v 4)
 (.ret [(.one .z),(.one (.k (.bool false)))] [])
 (.ret [(.one (.v 1)),(.one (.k (.bool true)))] []))]⟩
def t52:TFun:=⟨[.agg 7],[],
 .call 132 [(.v (.agg (.all 0)))] [] [(some 11),none] [] <|
 .opc (.un .not (.v 2)) <|
 .ite (.v 3)
 (.ret [(.agg (.lit [(.k (.int .i64 0)),(.k (.string ⟨#[]⟩)),(.k (.string ⟨#[]⟩)),(.k (.int .i64 0)),(.k (.string ⟨#[]⟩)),(.k (.string ⟨#[]⟩)),(.k (.string ⟨#[]⟩)),(.k (.string ⟨#[]⟩)),(.k (.string ⟨#[]⟩)),.z,.z])),(.one (.k (.bool false)))] [])
 (.call 133 [(.v (.agg (.all 1)))] [] [none] [] <|
 .opc (.un .not (.v 4)) <|
 .ite (.v 5)
 (.ret [(.agg (.lit [(.k (.int .i64 0)),(.k (.string ⟨#[]⟩)),(.k (.string ⟨#[]⟩)),(.k (.int .i64 0)),(.k (.string ⟨#[]⟩)),(.k (.string ⟨#[]⟩)),(.k (.string ⟨#[]⟩)),(.k (.string ⟨#[]⟩)),(.k (.string ⟨#[]⟩)),.z,.z])),(.one (.k (.bool false)))] [])
 (.ret [(.agg (.all 1)),(.one (.k (.bool true)))] [])),
 []⟩
def t53:TFun:=⟨[.one],[],
 .opc (.len false (.v 0)) <|
 .opc (.bin .gtr false (.v 1) (.k (.int .i64 60))) <|
 .ite (.v 2)
 (.ret [(.one (.k (.bool false)))] [])
 (.goto 0 [(.c (.v 0)),(.c (.k (.int .i64 0)))]),
 [.opc (.len false (.v 0)) <|
 .opc (.bin .lss false (.v 1) (.v 2)) <|
 .ite (.v 3)
 (.row 11 (.v 0) (.v 1) <|
 .call 133 [(.v (.agg (.all 4)))] [] [none] [] <|
 .opc (.un .not (.v 5)) <|
 .ite (.v 6)
 (.ret [(.one (.k (.bool false)))] [])
 (.opc (.sub 11 (.v 0) none (some (.v 1))) <|
 .row 11 (.v 0) (.v 1) <|
 .call 116 [(.v (.one (.v 7))),(.v (.agg (.all 8)))] [] [none] [] <|
 .ite (.v 9)
 (.ret [(.one (.k (.bool false)))] [])
 (.opc (.bin .add false (.v 1) (.k (.int .i64 1))) <|
 .goto 0 [(.c (.v 0)),(.c (.v 10))])))
 (.ret [(.one (.k (.bool true)))] [])]⟩
def t72:TFun:=⟨[.agg 2,.one],[],
 .ret [(.agg (.lit [(.k (.int .i64 3)),(.n 0 0),(.n 0 1),(.k (.int .i64 0)),(.k (.string ⟨#[]⟩)),(.k (.string ⟨#[]⟩)),(.k (.string ⟨#[]⟩)),(.k (.string ⟨#[]⟩)),(.k (.string ⟨#[]⟩)),.z,(.v 1)]))] [],
 []⟩
theorem tree72:(T nat).G.fn 72=some t72:=by kernel_rfl
def t83:TFun:=⟨[.agg 7],[],
 .ret [(.agg (.lit [(.k (.int .i64 2)),(.k (.string ⟨#[]⟩)),(.k (.string ⟨#[]⟩)),(.n 0 0),(.n 0 1),(.n 0 2),(.n 0 3),(.n 0 4),(.n 0 5),(.n 0 6),.z]))] [],
 []⟩
theorem tree83:(T nat).G.fn 83=some t83:=by kernel_rfl
def t84:TFun:=⟨[.agg 11,.agg 11],[],
 .opc (.bin .eql false (.n 0 0) (.n 1 0)) <|
 .ite (.v 2)
 (.opc (.eqs [1,1] false (.lit [(.n 0 1),(.n 0 2)]) (.lit [(.n 1 1),(.n 1 2)])) <|
 .ite (.v 3)
 (.call 11 [(.v (.agg (.lit [(.n 0 3),(.n 0 4),(.n 0 5),(.n 0 6),(.n 0 7),(.n 0 8),(.n 0 9)]))),(.v (.agg (.lit [(.n 1 3),(.n 1 4),(.n 1 5),(.n 1 6),(.n 1 7),(.n 1 8),(.n 1 9)])))] [] [none] [] <|
 .ite (.v 4)
 (.call 146 [(.v (.one (.n 0 10))),(.v (.one (.n 1 10)))] [] [none] [] <|
 .ret [(.one (.v 5))] [])
 (.ret [(.one (.k (.bool false)))] []))
 (.ret [(.one (.k (.bool false)))] []))
 (.ret [(.one (.k (.bool false)))] []),
 []⟩
theorem tree84:(T nat).G.fn 84=some t84:=by kernel_rfl
def t87:TFun:=⟨[.agg 2],[],
 .ret [(.agg (.lit [(.k (.int .i64 1)),(.n 0 0),(.n 0 1),(.k (.int .i64 0)),(.k (.string ⟨#[]⟩)),(.k (.string ⟨#[]⟩)),(.k (.string ⟨#[]⟩)),(.k (.string ⟨#[]⟩)),(.k (.string ⟨#[]⟩)),.z,.z]))] [],
 []⟩
theorem tree87:(T nat).G.fn 87=some t87:=by kernel_rfl
def t94:TFun:=⟨[.one],[],
 .ret [(.agg (.lit [(.k (.string ⟨#[108,105,115,112]⟩)),(.v 0)]))] [],
 []⟩
theorem tree94:(T nat).G.fn 94=some t94:=by kernel_rfl
def t119:TFun:=⟨[.agg 2],[],
 .ret [(.agg (.lit [(.k (.int .i64 2)),(.k (.string ⟨#[]⟩)),(.k (.string ⟨#[]⟩)),(.n 0 0),(.n 0 1),(.k (.string ⟨#[]⟩)),.z]))] [],
 []⟩
theorem tree119:(T nat).G.fn 119=some t119:=by kernel_rfl
def t121:TFun:=⟨[],[],
 .call 119 [(.v (.agg (.lit [(.k (.string ⟨#[108,105,115,112]⟩)),(.k (.string ⟨#[110,105,108]⟩))])))] [] [(some 7)] [] <|
 .ret [(.agg (.all 0))] [],
 []⟩
theorem tree121:(T nat).G.fn 121=some t121:=by kernel_rfl
def t127:TFun:=⟨[.one,.agg 11],[],
 .call 396 [(.v (.one (.v 0))),(.ref 0 0)] [(.all 1)] [none] [11] <|
 .ret [(.one (.v 2))] [],
 []⟩
def t136:TFun:=⟨[.agg 2,.one],[],
 .ret [(.agg (.lit [(.k (.int .i64 3)),(.n 0 0),(.n 0 1),(.k (.int .i64 0)),(.k (.string ⟨#[]⟩)),(.k (.string ⟨#[]⟩)),(.k (.string ⟨#[]⟩)),(.k (.string ⟨#[]⟩)),(.k (.string ⟨#[]⟩)),.z,(.v 1)]))] [],
 []⟩
theorem tree136:(T nat).G.fn 136=some t136:=by kernel_rfl
def t145:TFun:=⟨[],[],
 .call 119 [(.v (.agg (.lit [(.k (.string ⟨#[108,105,115,112]⟩)),(.k (.string ⟨#[116]⟩))])))] [] [(some 7)] [] <|
 .ret [(.agg (.all 0))] [],
 []⟩
theorem tree145:(T nat).G.fn 145=some t145:=by kernel_rfl
def t146:TFun:=⟨[.one,.one],[],
 .opc (.len false (.v 0)) <|
 .opc (.len false (.v 1)) <|
 .opc (.bin .neq false (.v 2) (.v 3)) <|
 .ite (.v 4)
 (.ret [(.one (.k (.bool false)))] [])
 (.goto 0 [(.c (.v 0)),(.c (.v 1)),(.c (.k (.int .i64 0)))]),
 [.opc (.len false (.v 0)) <|
 .opc (.bin .lss false (.v 2) (.v 3)) <|
 .ite (.v 4)
 (.row 11 (.v 0) (.v 2) <|
 .row 11 (.v 1) (.v 2) <|
 .call 84 [(.v (.agg (.all 5))),(.v (.agg (.all 6)))] [] [none] [] <|
 .opc (.un .not (.v 7)) <|
 .ite (.v 8)
 (.ret [(.one (.k (.bool false)))] [])
 (.opc (.bin .add false (.v 2) (.k (.int .i64 1))) <|
 .goto 0 [(.c (.v 0)),(.c (.v 1)),(.c (.v 9))]))
 (.ret [(.one (.k (.bool true)))] [])]⟩
theorem tree146:(T nat).G.fn 146=some t146:=by kernel_rfl
def t151:TFun:=⟨[.agg 7],[],
 .ret [(.agg (.lit [(.k (.int .i64 2)),(.k (.string ⟨#[]⟩)),(.k (.string ⟨#[]⟩)),(.n 0 0),(.n 0 1),(.n 0 2),(.n 0 3),(.n 0 4),(.n 0 5),(.n 0 6),.z]))] [],
 []⟩
theorem tree151:(T nat).G.fn 151=some t151:=by kernel_rfl
def t169:TFun:=⟨[.agg 2],[],
 .ret [(.agg (.lit [(.k (.int .i64 1)),(.n 0 0),(.n 0 1),(.k (.int .i64 0)),(.k (.string ⟨#[]⟩)),(.k (.string ⟨#[]⟩)),(.k (.string ⟨#[]⟩)),(.k (.string ⟨#[]⟩)),(.k (.string ⟨#[]⟩)),.z,.z]))] [],
 []⟩
theorem tree169:(T nat).G.fn 169=some t169:=by kernel_rfl
def t171:TFun:=⟨[.agg 11],[],
 .call 201 [(.v (.agg (.all 0))),(.v (.one (.k (.int .i64 201))))] [] [none] [] <|
 .ret [(.one (.v 1))] [],
 []⟩
end
end Go.Ey.Pr

set_option maxHeartbeats 4000000
namespace Go.Ey.Pr
open Go.Ey Go.Ey.Seat
section
variable {nat:Nat→List V→Option (List V)}
def cs (b:ByteArray):C:=.lit (.string b)
def ci (n:Int):C:=.lit (.int .i64 n)
def cb (b:Bool):C:=.lit (.bool b)
def ce:C:=cs ⟨#[]⟩
def cz:C:=.slice [] 0
inductive Ob where
 |num (n d:ByteArray)
 |sy (p s:ByteArray)
 |st (t:ByteArray)
 |cons (a b:Ob)
def enc:Ob→List C
 |.num n d=>[ci 1,cs n,cs d,ce,ce,ce,cz]
 |.sy p s=>[ci 2,ce,ce,cs p,cs s,ce,cz]
 |.st t=>[ci 3,ce,ce,ce,ce,cs t,cz]
 |.cons a b=>[ci 4,ce,ce,ce,ce,ce,.slice (enc a++enc b) 2]
theorem enc_len (o:Ob):(enc o).length=7:=by cases o<;>rfl
def rows {α:Type} (f:α→List C) (l:List α):C:=.slice (l.flatMap f) l.length
theorem flat_len {α:Type} {f:α→List C} {e:Nat} (hf:∀x,(f x).length=e):∀l:List α,(l.flatMap f).length=l.length * e
 |[]=>by simp
 |x::l=>by rw [List.flatMap_cons,List.length_append,hf,flat_len hf l,List.length_cons,Nat.succ_mul];omega
theorem flat_drop {α:Type} {f:α→List C} {e:Nat} (hf:∀x,(f x).length=e):∀(k:Nat) (l:List α),(l.flatMap f).drop (k * e)=(l.drop k).flatMap f
 |0,l=>by simp
 |k+1,[]=>by simp
 |k+1,x::l=>by
  rw [List.flatMap_cons,Nat.succ_mul,Nat.add_comm,←List.drop_drop,List.drop_left' (hf x),flat_drop hf k l,List.drop_succ_cons]
theorem flat_take {α:Type} {f:α→List C} {e:Nat} (hf:∀x,(f x).length=e):∀(k:Nat) (l:List α),(l.flatMap f).take (k * e)=(l.take k).flatMap f
 |0,l=>by simp
 |k+1,[]=>by simp
 |k+1,x::l=>by
  rw [List.flatMap_cons,Nat.succ_mul,Nat.add_comm,List.take_add,List.take_left' (hf x),List.drop_left' (hf x),flat_take hf k l,List.take_succ_cons,List.flatMap_cons]
theorem row_at {α:Type} {f:α→List C} {e:Nat} (hf:∀x,(f x).length=e) {l:List α} {k:Nat} {x:α} (h:l[k]?=some x):rowC e (rows f l) (ci k)=some (f x):=by
 have hk:k < l.length:=(List.getElem?_eq_some_iff.1 h).1
 have h1:(k+1) * e≤(l.flatMap f).length:=by rw [flat_len hf];exact Nat.mul_le_mul_right e hk
 simp only [rowC,rows,ci]
 have h2:(0:Int)≤(k:Int)∧(k:Int) < (l.length:Int)∧((k:Int).toNat+1) * e≤(l.flatMap f).length:=by
  refine ⟨by omega,by omega,by simpa using h1⟩
 rw [if_pos h2]
 have h3:l.drop k=x::l.drop (k+1):=by
  rw [List.drop_eq_getElem_cons hk]
  congr 1
  rw [List.getElem?_eq_getElem hk] at h
  injection h
 rw [Int.toNat_natCast,flat_drop hf,h3,List.flatMap_cons,List.take_left' (hf x)]
theorem row_two (a b:List C) (ha:a.length=7) (hb:b.length=7):rowC 7 (.slice (a++b) 2) (ci 0)=some a∧rowC 7 (.slice (a++b) 2) (ci 1)=some b:=by
 constructor
 ·simp [rowC,ci,ha,hb]
 ·simp [rowC,ci,ha,hb]
  exact List.take_of_length_le (by omega)
theorem app_row {α:Type} {f:α→List C} {e bytes:Nat} (hf:∀x,(f x).length=e) (he:0 < e) {l:List α} {x:α} (hb:(l.length+1) * bytes≤roomMax) (hl:l.length+1≤roomMax):appC e bytes (.slice (f x) 1) (rows f l)=some (rows f (l++[x])):=by
 have h1:(f x).length=1 * e:=by rw [hf];omega
 have h2:(l.flatMap f).length=l.length * e:=flat_len hf l
 simp only [appC,rows,srcC]
 rw [if_pos h1]
 simp only [Option.bind_some]
 rw [if_pos ⟨h1,h2,hb,he,hl⟩]
 simp
theorem rows_nil {α:Type} {f:α→List C}:rows f []=cz:=rfl
theorem sub_rows {α:Type} {f:α→List C} {e:Nat} (hf:∀x,(f x).length=e) {l:List α} {k:Nat} (h:k≤l.length):subC e none (some (ci k)) (rows f l)=some (rows f (l.take k)):=by
 simp only [subC,rows,loC,hiC,ci]
 have h1:(0:Int)≤(k:Int):=by omega
 rw [if_pos h1]
 simp only [Option.bind_some,Int.toNat_natCast]
 rw [if_pos ⟨Nat.zero_le _,h⟩]
 simp only [Nat.zero_mul,List.drop_zero,Nat.sub_zero]
 rw [flat_take hf,List.length_take,Nat.min_eq_left h]
theorem wrapS {n:Int} (h1:-9223372036854775808≤n) (h2:n≤9223372036854775807):IntKind.i64.wrap n=n:=by
 show (if (true && decide (n % 18446744073709551616≥9223372036854775808))=true then n % 18446744073709551616 - 18446744073709551616 else n % 18446744073709551616)=n
 by_cases h:n % 18446744073709551616≥9223372036854775808
 ·rw [if_pos (by simpa using h)];omega
 ·rw [if_neg (by simpa using h)];omega
theorem add_ci {a b:Int} (h1:-9223372036854775808≤a+b) (h2:a+b≤9223372036854775807):binC .add false (ci a) (ci b)=some (ci (a+b)):=by
 simp [binC,ci,binV,isShift,intBin,wrapS h1 h2]
theorem sub_ci {a b:Int} (h1:-9223372036854775808≤a - b) (h2:a - b≤9223372036854775807):binC .sub false (ci a) (ci b)=some (ci (a - b)):=by
 simp [binC,ci,binV,isShift,intBin,wrapS h1 h2]
theorem lss_ci (a b:Int):binC .lss false (ci a) (ci b)=some (cb (decide (a < b))):=by simp [binC,ci,cb,binV,isShift,intBin]
theorem leq_ci (a b:Int):binC .leq false (ci a) (ci b)=some (cb (decide (a≤b))):=by simp [binC,ci,cb,binV,isShift,intBin]
theorem gtr_ci (a b:Int):binC .gtr false (ci a) (ci b)=some (cb (decide (a > b))):=by simp [binC,ci,cb,binV,isShift,intBin]
theorem geq_ci (a b:Int):binC .geq false (ci a) (ci b)=some (cb (decide (a≥b))):=by simp [binC,ci,cb,binV,isShift,intBin]
theorem eql_ci (a b:Int):binC .eql false (ci a) (ci b)=some (cb (a==b)):=by simp [binC,ci,cb,binV,isShift,intBin]
theorem neq_ci (a b:Int):binC .neq false (ci a) (ci b)=some (cb (!(a==b))):=by
 simp [binC,ci,cb,binV,isShift,intBin]
 rfl
theorem not_cb (b:Bool):unC .not (cb b)=some (cb (!b)):=rfl
theorem ite_t {α:Type} (t e:Option α):iteC (cb true) t e=t:=rfl
theorem ite_f {α:Type} (t e:Option α):iteC (cb false) t e=e:=rfl
theorem toList_eq' (a b:ByteArray):(a.toList==b.toList)=decide (a=b):=by
 rw [kt_list,kt_list]
 by_cases h:a=b
 ·subst h;simp
 ·have:a.data.toList≠b.data.toList:=fun e=>h (by
   obtain ⟨a⟩:=a
   obtain ⟨b⟩:=b
   congr 1
   exact Array.toList_inj.1 e)
  rw [decide_eq_false h]
  exact beq_eq_false_iff_ne.2 this
theorem eql_cs (a b:ByteArray):binC .eql false (cs a) (cs b)=some (cb (decide (a=b))):=by
 simp only [binC,cs,binV,strBin,Bool.false_eq_true,if_false,Option.bind_some,cb,toList_eq']
theorem neq_cs (a b:ByteArray):binC .neq false (cs a) (cs b)=some (cb (!decide (a=b))):=by
 simp only [binC,cs,binV,strBin,Bool.false_eq_true,if_false,Option.bind_some,cb,toList_eq']
theorem eqs_cs (neg:Bool) (a b a' b':ByteArray):eqsC [1,1] neg [cs a,cs b] [cs a',cs b']=some (cb (if neg then !(decide (a=a') && decide (b=b')) else decide (a=a') && decide (b=b'))):=by
 simp only [eqsC,eqCs,eqC,cs,cb,Option.bind_some,toList_eq',Bool.and_true]
theorem eql_cb (a b:Bool):binC .eql true (cb a) (cb b)=some (cb (a==b)):=rfl
theorem neq_cb (a b:Bool):binC .neq true (cb a) (cb b)=some (cb (!(a==b))):=rfl
theorem len_cs (a:ByteArray):lenC true (cs a)=some (ci a.size):=rfl
theorem len_slice (l:List C) (n:Nat):lenC false (.slice l n)=some (ci n):=rfl
theorem nth7 (o:Ob):[nthC (enc o) 0,nthC (enc o) 1,nthC (enc o) 2,nthC (enc o) 3,nthC (enc o) 4,nthC (enc o) 5,nthC (enc o) 6]=enc o:=by cases o<;>rfl
end
end Go.Ey.Pr
