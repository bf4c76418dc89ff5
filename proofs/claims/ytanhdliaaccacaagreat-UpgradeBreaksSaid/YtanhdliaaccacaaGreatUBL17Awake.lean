/- .. -/
import Derived.Test.YtanhdliaaccacaaGreatUB41
import Derived.Test.YtanhdliaaccacaaGreatUB39
namespace Go.Proofs.YtanhdliaaccacaaGreat
open Go.RowKit
set_option linter.unusedVariables false
set_option maxHeartbeats 64000000
set_option maxRecDepth 100000
def rU:Rec:=⟨1,⟨⟨0,0,6,0,0⟩,3,9,8⟩,0,[],0,0,0⟩
def Zf:SD×Int:=bW rU YY
def us2:SD×Int:=qK 3 Zf.1
theorem Jw:cs0.2.1.isSome=true∧cs0.2.2=0∧us2.2=0∧us2.1.2.l.m.ak=3∧us2.1.2.st=⟨0,[],[],[⟨⟨0,0,6,0,0⟩,3,1,0⟩]⟩∧Na YY.2.l=true∧Na Zf.1.2.l=true∧YY.1.ops≤1000∧Zf.1.1.ops≤1000:=by decide +kernel
theorem WZ:nS rU:=⟨by constructor <;> decide,by simp [rU]⟩
theorem Zg:Gt Zf.1 1000:=by
 obtain⟨f1,f2,f3,f4,f5,l0,l1,o0,o1⟩:=Jw
 obtain⟨s,h1,h2,_⟩:=rW.start (v:=1) (by omega) 200 5000 3 (by omega) (by omega)
 have e:s=YY:=by
  show s=(cs0.1,cs0.2.1.getD default)
  rw [show cs0=(s.1,some s.2,0) from h1];rfl
 subst e
 obtain⟨F1,g1⟩:=h2.aat WZ
 exact⟨Jg l1,⟨F1,0,g1.inv.log⟩,o1,g1.inv.ok⟩
section
variable {F0:List Nat} {w0 w:World} {R:List ax} {sb lb bd dA:Nat}
theorem Zu (h:In F0 w0 w R):Calls Tryz.prog 18 #[] w fun e w'=>e=.returned (.bool true)∧In F0 w0 w' R:=by
 obtain⟨f1,f2,f3,f4,f5,l0,l1,o0,o1⟩:=Jw
 have K0:=Lib.hid (Kv h 5000 (by omega) (by omega))
 have K1:=Lib.hid (fun bd w' (h':In F0 w0 w' (bJ bd (iU 5000)::R))=>o_socreate h' (by decide) 1 200)
 have K2:=Lib.hid (fun sb lb bd dA w' (R':List ax) (h':In F0 w0 w' (vQ sb lb bd dA YY R'))=>yB (A:=none) (c:=0) (r:=rU) (Jg l0) (by omega) (fun _ _=>Src.nil _ _ _) (fun _=>rfl) (by decide) WZ h')
 have K3:=Lib.hid (fun sb lb bd dA w' (R':List ax) (h':In F0 w0 w' (vQ sb lb bd dA Zf.1 R'))=>Ze Zg (by omega) 3 h')
 have zq:Hid (cs0.2.1=some YY.2):=Lib.hid (by
  show _=some (cs0.2.1.getD default)
  cases e:cs0.2.1 with
  | none=>rw [e] at f1;cases f1
  | some l=>rfl)
 have E0:=Lib.hid f2
 have E2:=Lib.hid f3
 have EV:=Lib.hid f4
 have ES:=Lib.hid f5
 clear h f1 f2 f3 f4 f5 l0 l1 o0 o1
 go_enter Tryz.func18,Tryz.ntmps18
 go_wp2_with fail
 refine K0.out.mono ?_
 rintro e w1 ⟨bd,rfl,g1⟩
 have C1:=Lib.hid (K1.out bd w1 g1)
 clear g1 K0 K1
 go_wp2_with fail
 refine C1.out.mono ?_
 intro e w2 hp
 obtain⟨sb,lb,dA,rfl,g2⟩:=hp.some zq.out
 rw [show createS 1 200 (iU 5000)=cs0 from rfl,E0.out]
 have C2:=Lib.hid (K2.out sb lb bd dA _ _ g2)
 clear g2 hp C1 K2
 go_wp2_with fail
 refine C2.out.mono ?_
 rintro e w3 ⟨rfl,g4⟩
 have C3:=Lib.hid (K3.out sb lb bd dA _ _ g4)
 clear g4 C2 K3
 go_wp2_with fail
 refine C3.out.mono ?_
 rintro e w4 ⟨aax,rfl,g5⟩
 rw [show qK 3 Zf.1=us2 from rfl] at g5
 rw [show qK 3 Zf.1=us2 from rfl,E2.out]
 have C4:=Lib.hid (DN g5)
 have g6:=g5.aL (R1:=[_,_,_,_]) [3,0,1,2] (by decide) rfl
 have KV:=tH g6
 rw [ES.out] at KV
 have C5:=Lib.hid KV
 clear g5 g6 C3 KV
 go_wp2_with fail
 refine C4.out.mono ?_
 rintro e w5 ⟨rfl,rfl⟩
 go_wp2_with fail
 refine C5.out.mono ?_
 rintro e w6 ⟨A,a,D,d,F,f,rfl,g7⟩
 obtain⟨Ff,rf⟩:=g7.get 2 rfl
 obtain⟨gf,fo,rfl,sc⟩:=rf.all.plain (by decide) (by decide)
 have c5:w6.cell? ⟨gf,fo+5,none⟩=some (.int .i64 3):=sc 5 _ rfl
 have c6:w6.cell? ⟨gf,fo+6,none⟩=some (.int .i64 1):=sc 6 _ rfl
 have c7:w6.cell? ⟨gf,fo+7,none⟩=some (.int .i64 0):=sc 7 _ rfl
 have C6:=Lib.hid (tN (g7.aL (R1:=[_,_,_,_,_,_,_]) [4,5,0,1,2,3,6] (by decide) rfl))
 have G:=Lib.hid (g7.aL (R1:=[_,_,_,_,_,_,_]) [] (by decide) rfl)
 have hfd:=OQ
 clear g7 rf sc C4 C5
 go_wp2_with fail
 refine C6.out.mono ?_
 rintro e w7 ⟨rfl,rfl⟩
 rw [EV.out]
 clear C6
 go_wp2_with fail
 go_ret
 exact⟨rfl,G.out⟩
end
end Go.Proofs.YtanhdliaaccacaaGreat
