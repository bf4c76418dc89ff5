/- .. -/
import Derived.Test.YtanhdliaaccacaaGreatUB26
import Derived.Deep.DeepCutAuto
import Derived.Test.YtanhdliaaccacaaGreatUB7
namespace Go.Proofs.YtanhdliaaccacaaGreat
open Go.RowKit
set_option linter.unusedVariables false
set_option maxHeartbeats 64000000
set_option maxRecDepth 100000
section
variable {F0:List Nat} {w0 w:World} {R:List ax} {bd lb:Nat} {d:ae} {l:bI}
theorem In.Lt (h:In F0 w0 w (eH lb bd l::R)):w.cell? ⟨lb,0,none⟩=some (aF bd):=by
 obtain⟨a,c,h1⟩:=h.lX
 exact cell_of (h1.block 1 rfl) rfl
theorem In.lg3 (h:In F0 w0 w (eH lb bd l::R)):w.cell? ⟨lb,3,none⟩=some (.int .i64 l.m.next):=by
 obtain⟨a,c,h1⟩:=h.lX
 exact cell_of (h1.block 1 rfl) rfl
theorem yY {a:Option Addr} {ca pb qb nx:Nat} {s:List Nat} (h:In F0 w0 w (Cells pb #[.slice a s.length ca,.slice (some ⟨qb,0,none⟩) 1 1] 104::Cells qb #[.int .i64 nx] 3::mf a ca s::R)) (hs:s.length≤1000) :
  Calls Tryz.prog 206 #[.slice (some ⟨pb,0,none⟩) 2 2] w fun e w'=>∃ A c,e=.returned (.slice A (s++[nx]).length c)∧In F0 w0 w' (mf A c (s++[nx])::mf a ca s::R):=by
 have e1:fT [(a,ca,s),(some ⟨qb,0,none⟩,1,[nx])]=s++[nx]:=by simp [fT]
 refine (Sj (R:=Cells qb #[.int .i64 nx] 3::mf a ca s::R) (ps:=[(a,ca,s),(some ⟨qb,0,none⟩,1,[nx])]) (c:=2) h (by simp) (by rw [e1];simp) (by rw [e1];simp;omega) (fun p hp w' h'=>?_)).mono fun e w' ⟨v,he,h'⟩=>?_
 ·simp only [List.mem_cons,List.not_mem_nil,or_false] at hp
  rcases hp with rfl | rfl
  ·obtain⟨F',r'⟩:=h'.get 1 rfl
   exact r'.all
  ·exact Src.of_block (h'.block 0 rfl) rfl
 ·rw [e1] at h'
  obtain⟨F',r'⟩:=h'.get 0 rfl
  obtain⟨A,c,rfl,-,-,-⟩:=r'.shape
  exact⟨A,c,he,h'.aL (R1:=[_,_,_]) [0,2] (by decide) rfl⟩
def FO (l:bI) (lb bd bx:Nat) (d:ae) (F0:List Nat) (w0:World) (R:List ax) (v:Value) (wx:World):Prop:=
 ∃ mb A c,v=.pointer (some ⟨mb,0,none⟩)∧In F0 w0 wx (Cells mb #[.int .i64 l.m.ak,.int .i64 (l.m.next+1:Nat),.slice A (l.m.aa++[l.m.next]).length c] 190::mf A c (l.m.aa++[l.m.next])::eH lb bd l::bJ bd d::Cells bx #[aF lb] 94::R)
theorem Vv (h:In F0 w0 w (eH lb bd l::bJ bd d::R)) (hl:ib l) (ho:d.ops≤100000000) {bx:Nat} (j:Nat) (hj:R[j]?=some (Cells bx #[aF lb] 94)) :
  Calls Tryz.prog 207 #[.pointer (some ⟨bx,0,none⟩)] w fun e w'=>e=.returned (.int .i64 (aW d (bz l)).2)∧In F0 w0 w' (eH lb bd l::bJ bd (aW d (bz l)).1::R):=by
 have HP:Hid (∀ w' d',In F0 w0 w' (eH lb bd l::bJ bd d'::R)→w'.cell? ⟨bx,0,none⟩=some (aF lb)∧w'.cell? ⟨lb,0,none⟩=some (aF bd)):=Lib.hid fun w' d' h'=>⟨cell_of (h'.block (j+2) hj) rfl,h'.Lt⟩
 have HW:=Lib.hid (HP.out w d h)
 have C1:=Lib.hid (fun n=>yo (h.drewN n) hl)
 have C2:=Lib.hid (fun w' (h':In F0 w0 w' (eH lb bd l::bJ bd d::R))=>oQ h' 1 rfl ho (bz l) (dx _))
 clear h hj hl
 go_enter Tryz.func207,Tryz.ntmps207
 go_wp2_with fail
 go_region_held3 (fun w'=>w'.cell? ⟨bx,0,none⟩=some (aF lb)∧w'.cell? ⟨lb,0,none⟩=some (aF bd)) (first | exact HW.out | exact hc2 | exact hc1) (first | (go_at_call 142;refine (C1.out 1).mono ?_;rintro e w1 ⟨rfl,g1⟩;have hc1:=HP.out w1 _ g1;have K2:=Lib.hid (C2.out w1 g1);clear g1) | (go_at_call 122;refine K2.out.mono ?_;rintro e w2 ⟨rfl,g2⟩;have hc2:=HP.out w2 _ g2;have G:=Lib.hid g2;clear g2))
 go_wp2_with fail
 go_ret
 exact⟨rfl,G.out⟩
theorem Vw (h:In F0 w0 w (eH lb bd l::bJ bd d::R)) (hl:ib l) (ho:d.ops≤99999990) {bx:Nat} (j:Nat) (hj:R[j]?=some (Cells bx #[aF lb] 94)) :
  Calls Tryz.prog 208 #[.pointer (some ⟨bx,0,none⟩)] w fun e w'=>e=.returned (.int .i64 (dM l.m.next d).2)∧In F0 w0 w' (eH lb bd l::bJ bd (dM l.m.next d).1::R):=by
 have HP:Hid (∀ w' d',In F0 w0 w' (eH lb bd l::bJ bd d'::R)→w'.cell? ⟨bx,0,none⟩=some (aF lb)∧w'.cell? ⟨lb,0,none⟩=some (aF bd)∧w'.cell? ⟨lb,3,none⟩=some (.int .i64 l.m.next)):=Lib.hid fun w' d' h'=>⟨cell_of (h'.block (j+2) hj) rfl,h'.Lt,h'.lg3⟩
 have HW:=Lib.hid (HP.out w d h)
 have hn:=(bQ.1 hl.2.2).1
 have C2:=Lib.hid (fun n=>MS (h.drewN n) 1 rfl ho l.m.next (by omega))
 clear h hj hl hn
 go_enter Tryz.func208,Tryz.ntmps208
 go_wp2_with fail
 go_region_held3 (fun w'=>w'.cell? ⟨bx,0,none⟩=some (aF lb)∧w'.cell? ⟨lb,0,none⟩=some (aF bd)∧w'.cell? ⟨lb,3,none⟩=some (.int .i64 l.m.next)) (first | exact HW.out | exact hc2) (first | (go_at_call 120;refine (C2.out 1).mono ?_;rintro e w2 ⟨rfl,g2⟩;have hc2:=HP.out w2 _ g2;have G:=Lib.hid g2;clear g2))
 go_wp2_with fail
 go_ret
 exact⟨rfl,G.out⟩
theorem Vx (h:In F0 w0 w (eH lb bd l::bJ bd d::R)) (ho:d.ops≤99999990) {bx nb:Nat} (j k:Nat) (n:ByteArray) (hn:n.size≤maxLen) (hj:R[j]?=some (Cells bx #[aF lb] 94)) (hk:R[k]?=some (Cells nb #[.string n] 9)) :
  Calls Tryz.prog 209 #[.pointer (some ⟨bx,0,none⟩),.pointer (some ⟨nb,0,none⟩)] w fun e w'=>e=.returned (.int .i64 (aW d n).2)∧In F0 w0 w' (eH lb bd l::bJ bd (aW d n).1::R):=by
 have HP:Hid (∀ w' d',In F0 w0 w' (eH lb bd l::bJ bd d'::R)→w'.cell? ⟨bx,0,none⟩=some (aF lb)∧w'.cell? ⟨lb,0,none⟩=some (aF bd)∧w'.cell? ⟨nb,0,none⟩=some (.string n)):=Lib.hid fun w' d' h'=>⟨cell_of (h'.block (j+2) hj) rfl,h'.Lt,cell_of (h'.block (k+2) hk) rfl⟩
 have HW:=Lib.hid (HP.out w d h)
 have C2:=Lib.hid (fun m=>oQ (h.drewN m) 1 rfl (by omega) n hn)
 clear h hj hk
 go_enter Tryz.func209,Tryz.ntmps209
 go_wp2_with fail
 go_region_held3 (fun w'=>w'.cell? ⟨bx,0,none⟩=some (aF lb)∧w'.cell? ⟨lb,0,none⟩=some (aF bd)∧w'.cell? ⟨nb,0,none⟩=some (.string n)) (first | exact HW.out | exact hc2) (first | (go_at_call 122;refine (C2.out 1).mono ?_;rintro e w2 ⟨rfl,g2⟩;have hc2:=HP.out w2 _ g2;have G:=Lib.hid g2;clear g2))
 go_wp2_with fail
 go_ret
 exact⟨rfl,G.out⟩
theorem Vy (m:cZ) {A:Option Addr} {c:Nat} (h:In F0 w0 w (eH lb bd l::bJ bd d::mf A c m.aa::R)) (ho:d.ops≤99999990) (hn:m.aa.length≤1000000000) {bx mb:Nat} (j k:Nat) (hj:R[j]?=some (Cells bx #[aF lb] 94)) (hk:R[k]?=some (Cells mb #[.int .i64 m.ak,.int .i64 m.next,.slice A m.aa.length c] 190)) :
  Calls Tryz.prog 210 #[.pointer (some ⟨bx,0,none⟩),.pointer (some ⟨mb,0,none⟩)] w fun e w'=>e=.returned (.int .i64 (dD m (d,l)).2.2)∧In F0 w0 w' (eH lb bd (dD m (d,l)).1.2::bJ bd (dD m (d,l)).1.1::R):=by
 have c0:w.cell? ⟨bx,0,none⟩=some (aF lb):=cell_of (h.block (j+3) hj) rfl
 have c1:w.cell? ⟨mb,0,none⟩=some (.int .i64 m.ak):=cell_of (h.block (k+3) hk) rfl
 have c2:w.cell? ⟨mb,1,none⟩=some (.int .i64 m.next):=cell_of (h.block (k+3) hk) rfl
 have c3:w.cell? ⟨mb,2,none⟩=some (.slice A m.aa.length c):=cell_of (h.block (k+3) hk) rfl
 have C:=Lib.hid (Vu m h ho hn)
 unfold iJ at C
 clear h hj hk
 go_enter Tryz.func210,Tryz.ntmps210
 go_wp2_with fail
 refine C.out.mono ?_
 rintro e w1 ⟨rfl,g,-⟩
 have G:=Lib.hid g
 have HX:Hid (∃ x,(dD m (d,l)).2.2=x):=Lib.hid ⟨_,rfl⟩
 have HY:Hid (∃ x,(dD m (d,l)).2.1=x):=Lib.hid ⟨_,rfl⟩
 clear g C
 go_wp2_with fail
 go_ret
 exact⟨rfl,G.out⟩
def BM {σ:Type} (p:(Bool→Bool)×(σ→σ×Int)) (s:σ×Bool):(σ×Bool)×Int:=(((p.2 s.1).1,p.1 s.2),(p.2 s.1).2)
theorem Lu {σ:Type} (L:List ((Bool→Bool)×(σ→σ×Int))) (s:σ×Bool):(bK (L.map BM) s).1.1=(bK (L.map (·.2)) s.1).1∧(bK (L.map BM) s).2=(bK (L.map (·.2)) s.1).2:=by
 suffices h:∀ (L:List ((Bool→Bool)×(σ→σ×Int))) (a:(σ×Bool)×Int) (b:σ×Int),a.1.1=b.1→a.2=b.2→((L.map BM).foldl bM a).1.1=((L.map (·.2)).foldl bM b).1∧((L.map BM).foldl bM a).2=((L.map (·.2)).foldl bM b).2 from h L _ _ rfl rfl
 intro L
 induction L with
 | nil=>intro a b h1 h2;exact⟨h1,h2⟩
 | cons p L ih=>
  intro a b h1 h2
  simp only [List.map_cons,List.foldl_cons]
  refine ih _ _ ?_ ?_
  ·unfold bM
   rw [h2]
   split
   ·show (p.2 a.1.1).1=_;rw [h1]
   ·exact h1
  ·unfold bM
   rw [h2]
   split
   ·show (p.2 a.1.1).2=_;rw [h1]
   ·exact h2
def tK (l:bI):List ((Bool→Bool)×(DL→DL×Int)):=
 [(id,gW (fun d=>aW d (bz l))),(id,gW (dM l.m.next)),(id,gW (fun d=>aW d (ai l.m.next))),(fun _=>true,fun t=>((dD (gM l) t).1,(dD (gM l) t).2.2))]
theorem Lv (d:ae) (l:bI) (h:¬ 64≤l.m.aa.length):bK ((tK l).map (·.2)) (d,l)=gY (d,l):=by
 unfold gY;rw [if_neg h];rfl
def Sk (lb bd bx mb nb:Nat) (l:bI) (A:Option Addr) (c:Nat) (R:List ax) (s:DL×Bool):List ax:=
 eH lb bd s.1.2::bJ bd s.1.1::((if s.2 then [] else [mf A c (gM l).aa])++Cells nb #[.string (ai l.m.next)] 9::Cells mb #[.int .i64 (gM l).ak,.int .i64 (gM l).next,.slice A (gM l).aa.length c] 190::Cells bx #[aF lb] 94::R)
def Sl (l:bI) (k:Nat) (s:DL×Bool):Prop:=k≤3→(s.1.2=l∧s.2=false∧s.1.1.ops≤99999900+10 * k)
theorem Lx (l:bI) (k:Nat) (f:DL×Bool→(DL×Bool)×Int) (hf:((tK l).map BM)[k]?=some f) (s:DL×Bool) (h:Sl l k s):Sl l (k+1) (f s).1:=by
 intro hk
 obtain⟨h1,h2,h3⟩:=h (by omega)
 rcases k with _ | _ | _ | k
 ·cases hf
  have:=fP s.1.1 (bz l)
  refine⟨h1,h2,?_⟩
  show (aW s.1.1 (bz l)).1.ops≤_;omega
 ·cases hf
  have:=rH l.m.next s.1.1
  refine⟨h1,h2,?_⟩
  show (dM l.m.next s.1.1).1.ops≤_;omega
 ·cases hf
  have:=fP s.1.1 (ai l.m.next)
  refine⟨h1,h2,?_⟩
  show (aW s.1.1 (ai l.m.next)).1.ops≤_;omega
 ·omega
theorem Sm {fb bx mb nb:Nat} {A:Option Addr} {c:Nat} (hl:ib l) (ho:d.ops≤99999900)
  (fs:List (FuncId×Array Value)) (hfs:fs=[(207,#[.pointer (some ⟨bx,0,none⟩)]),(208,#[.pointer (some ⟨bx,0,none⟩)]),(209,#[.pointer (some ⟨bx,0,none⟩),.pointer (some ⟨nb,0,none⟩)]),(210,#[.pointer (some ⟨bx,0,none⟩),.pointer (some ⟨mb,0,none⟩)])])
  (h:In F0 w0 w (Cells fb (fs.map Ez).toArray 79::Sk lb bd bx mb nb l A c R ((d,l),false))) :
  Calls Tryz.prog 118 #[.slice (some ⟨fb,0,none⟩) 4 4] w fun e w'=>e=.returned (.int .i64 (bK ((tK l).map (·.2)) (d,l)).2)∧In F0 w0 w' (eH lb bd (bK ((tK l).map (·.2)) (d,l)).1.2::bJ bd (bK ((tK l).map (·.2)) (d,l)).1.1::R):=by
 have lV:∀ args w',(callFunc 207 args).run Tryz.prog w'=.ok (.enter 207 args) w':=enters_of Tryz.func207 (by kernel_rfl) rfl
 have lW:∀ args w',(callFunc 208 args).run Tryz.prog w'=.ok (.enter 208 args) w':=enters_of Tryz.func208 (by kernel_rfl) rfl
 have uJ:∀ args w',(callFunc 209 args).run Tryz.prog w'=.ok (.enter 209 args) w':=enters_of Tryz.func209 (by kernel_rfl) rfl
 have MU:∀ args w',(callFunc 210 args).run Tryz.prog w'=.ok (.enter 210 args) w':=enters_of Tryz.func210 (by kernel_rfl) rfl
 have hlen:fs.length=4:=by rw [hfs];rfl
 have hm:=(bQ.1 hl.2.2).1
 have key:=AR (F0:=F0) (w0:=w0) (w:=w) (Sl l) (Sk lb bd bx mb nb l A c R) fb 79 ((tK l).map BM) fs (by rw [hlen];rfl) (by omega) ((d,l),false) 4
  (fun _=>⟨rfl,rfl,by simp only;omega⟩) (fun k f hf s hI=>Lx l k f hf s hI)
  (fun f hf=>by
   rw [hfs] at hf
   simp only [List.mem_cons,List.not_mem_nil,or_false] at hf
   rcases hf with rfl | rfl | rfl | rfl
   ·exact lV
   ·exact lW
   ·exact uJ
   ·exact MU)
  (fun k f g hf hg w' s hI h'=>by
   rw [hfs] at hf
   obtain⟨⟨d1,l1⟩,b1⟩:=s
   rcases k with _ | _ | _ | _ | k
   ·obtain⟨h1,h2,h3⟩:=hI (by omega)
    simp only at h1 h2 h3
    subst h1 h2
    cases hf;cases hg
    have:=Vv (h'.aL (R1:=[_,_,_]) [1,2,0] (by decide) rfl) hl (by simp only;omega) (bx:=bx) 4 rfl
    exact this.mono fun e w'' ⟨he,hw⟩=>⟨he,hw.aL (R1:=[_,_,_]) [2,0,1] (by decide) rfl⟩
   ·obtain⟨h1,h2,h3⟩:=hI (by omega)
    simp only at h1 h2 h3
    subst h1 h2
    cases hf;cases hg
    have:=Vw (h'.aL (R1:=[_,_,_]) [1,2,0] (by decide) rfl) hl (by simp only;omega) (bx:=bx) 4 rfl
    exact this.mono fun e w'' ⟨he,hw⟩=>⟨he,hw.aL (R1:=[_,_,_]) [2,0,1] (by decide) rfl⟩
   ·obtain⟨h1,h2,h3⟩:=hI (by omega)
    simp only at h1 h2 h3
    subst h1 h2
    cases hf;cases hg
    have:=Vx (h'.aL (R1:=[_,_,_]) [1,2,0] (by decide) rfl) (by simp only;omega) (bx:=bx) (nb:=nb) 4 2 (ai l1.m.next) (dx _) rfl rfl
    exact this.mono fun e w'' ⟨he,hw⟩=>⟨he,hw.aL (R1:=[_,_,_]) [2,0,1] (by decide) rfl⟩
   ·obtain⟨h1,h2,h3⟩:=hI (by omega)
    simp only at h1 h2 h3
    subst h1 h2
    cases hf;cases hg
    have:=Vy (gM l1) (A:=A) (c:=c) (h'.aL (R1:=[_,_,_,_]) [1,2,3,0] (by decide) rfl) (by simp only;omega) (by simp [gM];omega) (bx:=bx) (mb:=mb) 3 2 rfl rfl
    exact this.mono fun e w'' ⟨he,hw⟩=>⟨he,hw.aL (R1:=[_,_,_]) [2,0,1] (by decide) rfl⟩
   ·simp at hf) h
 rw [hlen] at key
 refine key.mono fun e w' ⟨he,hw⟩=>?_
 obtain⟨e1,e2⟩:=Lu (tK l) ((d,l),false)
 rw [e2] at he
 refine⟨he,?_⟩
 have hw2:=hw.drop
 unfold Sk at hw2
 rw [e1] at hw2
 cases hb:(bK ((tK l).map BM) ((d,l),false)).1.2 with
 | true=>rw [hb] at hw2;exact hw2.aL (R1:=[_,_,_,_,_]) [0,1] (by decide) rfl
 | false=>rw [hb] at hw2;exact hw2.aL (R1:=[_,_,_,_,_,_]) [0,1] (by decide) rfl
end
section
variable {F0:List Nat} {w0 w:World} {R:List ax} {bd lb:Nat} {d:ae} {l:bI}
abbrev WM (a:Option Addr) (ca pb qb:Nat) (l:bI):List ax:=[Cells pb #[.slice a l.m.aa.length ca,.slice (some ⟨qb,0,none⟩) 1 1] 104,Cells qb #[.int .i64 l.m.next] 3,mf a ca l.m.aa]
abbrev WN (a:Option Addr) (ca bx lb bd:Nat) (l:bI) (d:ae) (R:List ax):List ax:=Cells bx #[aF lb] 94::Cells lb (xu bd l (.slice a l.m.aa.length ca)) 197::bJ bd d::R
def yZ (bx lb:Nat) (l:bI) (a:Option Addr) (ca:Nat) (w':World):Prop:=
 w'.cell? ⟨bx,0,none⟩=some (aF lb)∧w'.cell? ⟨lb,2,none⟩=some (.int .i64 l.m.ak)∧w'.cell? ⟨lb,3,none⟩=some (.int .i64 l.m.next)∧w'.cell? ⟨lb,4,none⟩=some (.slice a l.m.aa.length ca)
theorem FP {a:Option Addr} {ca pb qb bx mb:Nat} (hl:l.m.aa.length≤64)
  (h:In F0 w0 w (WM a ca pb qb l++Cells mb #[.int .i64 0,.int .i64 0,.slice none 0 0] 190::WN a ca bx lb bd l d R)) :
  Calls Tryz.prog 206 #[.slice (some ⟨pb,0,none⟩) 2 2] w fun e w'=>∃ A c,e=.returned (.slice A (l.m.aa.length+1) c)∧yZ bx lb l a ca w'∧(w'.frozen? ⟨mb,0,none⟩=false∧w'.frozen? ⟨mb,1,none⟩=false∧w'.frozen? ⟨mb,2,none⟩=false∧w'.cell? ⟨mb,0,none⟩=some (.int .i64 0)∧w'.cell? ⟨mb,1,none⟩=some (.int .i64 0)∧w'.cell? ⟨mb,2,none⟩=some (.slice none 0 0)) ∧
   FO l lb bd bx d F0 w0 R (.pointer (some ⟨mb,0,none⟩)) (((w'.setCell ⟨mb,0,none⟩ (.int .i64 l.m.ak)).setCell ⟨mb,1,none⟩ (.int .i64 ((l.m.next:Int)+1))).setCell ⟨mb,2,none⟩ (.slice A (l.m.aa.length+1) c)):=by
 refine (yY h (by omega)).mono fun e w' ⟨A,c,he,h'⟩=>?_
 have e1:(l.m.aa++[l.m.next]).length=l.m.aa.length+1:=by simp
 refine⟨A,c,by rw [he,e1],⟨cell_of (h'.block 3 rfl) rfl,cell_of (h'.block 4 rfl) rfl,cell_of (h'.block 4 rfl) rfl,cell_of (h'.block 4 rfl) rfl⟩,⟨aK (h'.block 2 rfl),aK (h'.block 2 rfl),aK (h'.block 2 rfl),cell_of (h'.block 2 rfl) rfl,cell_of (h'.block 2 rfl) rfl,cell_of (h'.block 2 rfl) rfl⟩,mb,A,c,rfl,?_⟩
 have h2:=(h'.aL (R1:=[_,_,_,_,_,_]) [2,1,4,5,3,0] (by decide) rfl).Un (.int .i64 l.m.ak) (.int .i64 ((l.m.next:Int)+1)) (.slice A (l.m.aa.length+1) c)
 have h3:=(h2.aL (R1:=[_,_,_]) [1,2,0] (by decide) rfl).nL
 rw [e1]
 exact h3.aL (R1:=[_,_,_,_,_]) [1,4,0,2,3] (by decide) rfl
theorem Vz {a:Option Addr} {ca pb qb bx:Nat} (hl:l.m.aa.length≤64)
  (h:In F0 w0 w (WM a ca pb qb l++WN a ca bx lb bd l d R)) :
  Calls Tryz.prog 206 #[.slice (some ⟨pb,0,none⟩) 2 2] w fun e w'=>∃ A c,e=.returned (.slice A (l.m.aa.length+1) c)∧yZ bx lb l a ca w' ∧
   FO l lb bd bx d F0 w0 R (.pointer (some ⟨w'.heap.size,0,none⟩)) (w'.alloc (.cells #[.int .i64 l.m.ak,.int .i64 ((l.m.next:Int)+1),.slice A (l.m.aa.length+1) c] 190)):=by
 refine (yY h (by omega)).mono fun e w' ⟨A,c,he,h'⟩=>?_
 have e1:(l.m.aa++[l.m.next]).length=l.m.aa.length+1:=by simp
 refine⟨A,c,by rw [he,e1],⟨cell_of (h'.block 2 rfl) rfl,cell_of (h'.block 3 rfl) rfl,cell_of (h'.block 3 rfl) rfl,cell_of (h'.block 3 rfl) rfl⟩,_,A,c,rfl,?_⟩
 have h2:=h'.cells #[.int .i64 l.m.ak,.int .i64 ((l.m.next:Int)+1),.slice A (l.m.aa.length+1) c] 190
 have h3:=(h2.aL (R1:=[_,_,_,_,_,_]) [2,4,0,1,5,3] (by decide) rfl).nL
 rw [e1]
 exact h3.aL (R1:=[_,_,_,_,_]) [1,2,0,3,4] (by decide) rfl
theorem mY {w:World} {a:Addr} {v:Value} {o:Obj} (h:w.cell? a=some v):(w.alloc o).cell? a=some v:=by
 rw [World.cell?_alloc_some _ _ _ (by rw [h];rfl)];exact h
theorem Yo (h:In F0 w0 w (eH lb bd l::bJ bd d::R)) (hl:ib l) (ho:d.ops≤99999900) :
  Calls Tryz.prog 143 #[aF lb] w fun e w'=>e=.returned (.int .i64 (gY (d,l)).2)∧In F0 w0 w' (eH lb bd (gY (d,l)).1.2::bJ bd (gY (d,l)).1.1::R):=by
 have hm:=(bQ.1 hl.2.2).1
 obtain⟨a,ca,h1⟩:=h.lX
 have c2:w.cell? ⟨lb,2,none⟩=some (.int .i64 l.m.ak):=cell_of (h1.block 1 rfl) rfl
 have c3:w.cell? ⟨lb,3,none⟩=some (.int .i64 l.m.next):=cell_of (h1.block 1 rfl) rfl
 have c4:w.cell? ⟨lb,4,none⟩=some (.slice a l.m.aa.length ca):=cell_of (h1.block 1 rfl) rfl
 by_cases h64:64≤l.m.aa.length
 ·have HE:Hid (gY (d,l)=((d,l),4)):=Lib.hid (by unfold gY;rw [if_pos h64])
  have q:decide ((64:Int)≤(l.m.aa.length:Int))=true:=by simp;omega
  have c4':(w.alloc (.cells #[aF lb] 94)).cell? ⟨lb,4,none⟩=some (.slice a l.m.aa.length ca):=cell_of ((h1.cells #[aF lb] 94).block 2 rfl) rfl
  have H:=Lib.hid ((h.cells #[aF lb] 94).drop)
  clear h h1 hl hm
  go_enter Tryz.func143,Tryz.ntmps143
  go_wp2_with fail
  go_ret
  exact⟨by rw [HE.out];rfl,by rw [HE.out];exact H.out⟩
 ·have q:decide ((64:Int)≤(l.m.aa.length:Int))=false:=by simp;omega
  have HE:=Lib.hid (Lv d l h64)
  have g0:=h1.cells #[aF lb] 94
  have HG0:=Lib.hid g0
  have MW:=Lib.hid (And.intro hl ho)
  have hlen:l.m.aa.length≤64:=hm.2.2.2.1
  have hnx:l.m.next≤1000000:=hm.2.2.2.2.2
  have e4:(w.alloc (.cells #[aF lb] 94)).cell? ⟨lb,4,none⟩=some (.slice a l.m.aa.length ca):=cell_of (g0.block 2 rfl) rfl
  have e0:(w.alloc (.cells #[aF lb] 94)).cell? ⟨w.heap.size,0,none⟩=some (aF lb):=cell_of (g0.block 0 rfl) rfl
  clear h h1 hm hl ho
  go_enter Tryz.func143,Tryz.ntmps143
  go_upto_region 3 with fail
  go_cut [3] (fun mb wx=>FO l lb bd w.heap.size d F0 w0 R mb wx)
  case first=>
   have zq:Hid (yZ w.heap.size lb l a ca (w.alloc (.cells #[aF lb] 94))):=Lib.hid
    ⟨cell_of (g0.block 0 rfl) rfl,cell_of (g0.block 2 rfl) rfl,cell_of (g0.block 2 rfl) rfl,cell_of (g0.block 2 rfl) rfl⟩
   have abU:=Lib.hid hlen
   have hw:IntKind.i64.wrap ((l.m.next:Int)+1)=(l.m.next:Int)+1:=IntWalk.i64_in _ (by omega)
   have KA:Hid (Calls Tryz.prog 206 #[.slice (some ⟨w.heap.size+1+1+1,0,none⟩) 2 2] ((((w.alloc (.cells #[aF lb] 94)).alloc (.cells #[.int .i64 0,.int .i64 0,.slice none 0 0] 190)).alloc (.cells #[.int .i64 l.m.next] 3)).alloc (.cells #[.slice a l.m.aa.length ca,.slice (some ⟨w.heap.size+1+1,0,none⟩) 1 1] 104)).drew _):=Lib.hid
    (FP (mb:=w.heap.size+1) (qb:=w.heap.size+1+1) (pb:=w.heap.size+1+1+1) (bx:=w.heap.size) (lb:=lb) (bd:=bd) (d:=d) hlen (by
     have g:=(((g0.cells #[.int .i64 0,.int .i64 0,.slice none 0 0] 190).cells #[.int .i64 l.m.next] 3).cells #[.slice a l.m.aa.length ca,.slice (some ⟨w.heap.size+1+1,0,none⟩) 1 1] 104).drewN 1
     simp only [World.size_alloc] at g
     exact g.aL (R1:=[_,_,_,_,_]) [0,1,4,2,3] (by decide) rfl))
   have KB:Hid (Calls Tryz.prog 206 #[.slice (some ⟨w.heap.size+1+1+1,0,none⟩) 2 2] ((((w.alloc (.cells #[aF lb] 94)).alloc (.cells #[.int .i64 l.m.next] 3)).alloc (.cells #[.int .i64 0,.int .i64 0,.slice none 0 0] 190)).alloc (.cells #[.slice a l.m.aa.length ca,.slice (some ⟨w.heap.size+1,0,none⟩) 1 1] 104)).drew _):=Lib.hid
    (FP (mb:=w.heap.size+1+1) (qb:=w.heap.size+1) (pb:=w.heap.size+1+1+1) (bx:=w.heap.size) (lb:=lb) (bd:=bd) (d:=d) hlen (by
     have g:=(((g0.cells #[.int .i64 l.m.next] 3).cells #[.int .i64 0,.int .i64 0,.slice none 0 0] 190).cells #[.slice a l.m.aa.length ca,.slice (some ⟨w.heap.size+1,0,none⟩) 1 1] 104).drewN 1
     simp only [World.size_alloc] at g
     exact g.aL (R1:=[_,_,_,_,_]) [0,2,4,1,3] (by decide) rfl))
   have KC:Hid (Calls Tryz.prog 206 #[.slice (some ⟨w.heap.size+1+1,0,none⟩) 2 2] ((((w.alloc (.cells #[aF lb] 94)).alloc (.cells #[.int .i64 l.m.next] 3)).alloc (.cells #[.slice a l.m.aa.length ca,.slice (some ⟨w.heap.size+1,0,none⟩) 1 1] 104)).alloc (.cells #[.int .i64 0,.int .i64 0,.slice none 0 0] 190)).drew _):=Lib.hid
    (FP (mb:=w.heap.size+1+1+1) (qb:=w.heap.size+1) (pb:=w.heap.size+1+1) (bx:=w.heap.size) (lb:=lb) (bd:=bd) (d:=d) hlen (by
     have g:=(((g0.cells #[.int .i64 l.m.next] 3).cells #[.slice a l.m.aa.length ca,.slice (some ⟨w.heap.size+1,0,none⟩) 1 1] 104).cells #[.int .i64 0,.int .i64 0,.slice none 0 0] 190).drewN 1
     simp only [World.size_alloc] at g
     exact g.aL (R1:=[_,_,_,_,_]) [1,2,4,0,3] (by decide) rfl))
   have KD:Hid (Calls Tryz.prog 206 #[.slice (some ⟨w.heap.size+1+1,0,none⟩) 2 2] (((w.alloc (.cells #[aF lb] 94)).alloc (.cells #[.int .i64 l.m.next] 3)).alloc (.cells #[.slice a l.m.aa.length ca,.slice (some ⟨w.heap.size+1,0,none⟩) 1 1] 104)).drew _):=Lib.hid
    (Vz (qb:=w.heap.size+1) (pb:=w.heap.size+1+1) (bx:=w.heap.size) (lb:=lb) (bd:=bd) (d:=d) hlen (by
     have g:=((g0.cells #[.int .i64 l.m.next] 3).cells #[.slice a l.m.aa.length ca,.slice (some ⟨w.heap.size+1,0,none⟩) 1 1] 104).drewN 1
     simp only [World.size_alloc] at g
     exact g.aL (R1:=[_,_,_,_]) [0,1,3,2] (by decide) rfl))
   have hlb:lb < w.heap.size:=World.block_lt_of_cell? w _ c2
   have n1:¬ w.heap.size+1=lb:=by omega
   have n2:¬ w.heap.size+1+1=lb:=by omega
   have n3:¬ w.heap.size+1+1+1=lb:=by omega
   clear hlb
   clear g0 HG0 MW HE c2 c3 c4 e4 e0 h64 q hlen hnx
   unfold yZ at zq
   obtain⟨s0,s2,s3,s4⟩:=zq.out
   go_region_held3 (fun w'=>w'.cell? ⟨w.heap.size,0,none⟩=some (aF lb)∧w'.cell? ⟨lb,2,none⟩=some (.int .i64 l.m.ak)∧w'.cell? ⟨lb,3,none⟩=some (.int .i64 l.m.next)∧w'.cell? ⟨lb,4,none⟩=some (.slice a l.m.aa.length ca)) (first | with_reducible exact zq.out | with_reducible exact hc1 | ((refine⟨?_,?_,?_,?_⟩ <;> repeat (first | with_reducible exact s0 | with_reducible exact s2 | with_reducible exact s3 | with_reducible exact s4 | with_reducible exact hc1.1 | with_reducible exact hc1.2.1 | with_reducible exact hc1.2.2.1 | with_reducible exact hc1.2.2.2 | rw [World.cell?_drew] | with_reducible refine mY ?_ | (rw [World.cell?_setCell_far _ _ _ _ (by simp;omega)])));done) | go_keep)
    (first
     | (go_at_call 206
        with_reducible refine KA.out.mono ?_
        rintro e w1 ⟨A,c,rfl,hc1,⟨f0,f1,f2,z0,z1,z2⟩,hmid⟩
        unfold yZ at hc1
        have HM:=Lib.hid hmid
        clear hmid)
     | (go_at_call 206
        with_reducible refine KB.out.mono ?_
        rintro e w1 ⟨A,c,rfl,hc1,⟨f0,f1,f2,z0,z1,z2⟩,hmid⟩
        unfold yZ at hc1
        have HM:=Lib.hid hmid
        clear hmid)
     | (go_at_call 206
        with_reducible refine KC.out.mono ?_
        rintro e w1 ⟨A,c,rfl,hc1,⟨f0,f1,f2,z0,z1,z2⟩,hmid⟩
        unfold yZ at hc1
        have HM:=Lib.hid hmid
        clear hmid)
     | (go_at_call 206
        with_reducible refine KD.out.mono ?_
        rintro e w1 ⟨A,c,rfl,hc1,hmid⟩
        unfold yZ at hc1
        have HM:=Lib.hid hmid
        clear hmid))
   all_goals (go_wp2_with fail;go_meet;exact HM.out)
  case rest=>
   obtain⟨mb,A,c,rfl,hx⟩:=hcut
   have d0:wc.cell? ⟨w.heap.size,0,none⟩=some (aF lb):=cell_of (hx.block 4 rfl) rfl
   have d3:wc.cell? ⟨lb,3,none⟩=some (.int .i64 l.m.next):=(hx.aL (R1:=[_,_,_,_,_]) [2,3,4,0,1] (by decide) rfl).lg3
   have C1:=Lib.hid (pF hx l.m.next (by omega))
   clear hx e4 e0 c2 c3 c4 g0 HG0 q h64
   go_wp2_with fail
   refine C1.out.mono ?_
   rintro e w1 ⟨rfl,g1⟩
   have g2:=g1.cells #[.string (ai l.m.next)] 9
   have g3:=g2.cells #[.func (.func 207) #[] #[.pointer (some ⟨w.heap.size,0,none⟩)],.func (.func 208) #[] #[.pointer (some ⟨w.heap.size,0,none⟩)],.func (.func 209) #[] #[.pointer (some ⟨w.heap.size,0,none⟩),.pointer (some ⟨w1.heap.size,0,none⟩)],.func (.func 210) #[] #[.pointer (some ⟨w.heap.size,0,none⟩),.pointer (some ⟨mb,0,none⟩)]] 79
   simp only [World.size_alloc] at g3
   have K:=Sm (R:=R) (nb:=w1.heap.size) (mb:=mb) (bx:=w.heap.size) (fb:=w1.heap.size+1) (A:=A) (c:=c) MW.out.1 MW.out.2 _ rfl (g3.aL (R1:=[_,_,_,_,_,_,_]) [0,4,5,3,1,2,6] (by decide) rfl)
   rw [HE.out] at K
   have KH:=Lib.hid K
   clear K g1 g2 g3 C1 MW HE
   go_wp2_with fail
   refine KH.out.mono ?_
   rintro e w2 ⟨rfl,g4⟩
   have G:=Lib.hid g4
   clear g4 KH
   go_wp2_with fail
   go_ret
   exact⟨rfl,G.out⟩
end
theorem mH {d:ae} (h:aO d) (n:ByteArray):bytesD d n≤1048576:=by
 unfold bytesD iy
 cases e:bP d.now n with
 | none=>simp
 | some k=>
  have hk:=h.at e
  have:=(h.file (d.files.getD k default) (by rw [List.getD_eq_getElem?_getD,List.getElem?_eq_getElem hk];exact List.getElem_mem hk)).1
  simpa using this
section
variable {F0:List Nat} {w0 w:World} {R:List ax} {bd lb:Nat} {d:ae} {l:bI}
theorem In.dk (h:In F0 w0 w (eH lb bd l::bJ bd d::R)):aO d:=by
 obtain⟨F,hF⟩:=h.get 1 rfl
 exact hF.1
def xw (n:Nat) (t:DL):DL×Int:=if lI t.2 (bytesD t.1 (bz t.2)) n then (t,0) else gY t
theorem Yp (h:In F0 w0 w (eH lb bd l::bJ bd d::R)) (hl:ib l) (ho:d.ops≤99999900) {bx nb n c:Nat} {a:Option Addr} (hn:n≤10000000) (j k:Nat) (hj:R[j]?=some (Cells bx #[aF lb] 94)) (hk:R[k]?=some (Cells nb #[.slice a n c] 65)) :
  Calls Tryz.prog 139 #[.pointer (some ⟨bx,0,none⟩),.pointer (some ⟨nb,0,none⟩)] w fun e w'=>e=.returned (.int .i64 (xw n (d,l)).2)∧In F0 w0 w' (eH lb bd (xw n (d,l)).1.2::bJ bd (xw n (d,l)).1.1::R):=by
 have HP:Hid (∀ w' d' l',In F0 w0 w' (eH lb bd l'::bJ bd d'::R)→w'.cell? ⟨bx,0,none⟩=some (aF lb)∧w'.cell? ⟨nb,0,none⟩=some (.slice a n c)):=Lib.hid fun w' d' l' h'=>⟨cell_of (h'.block (j+2) hj) rfl,cell_of (h'.block (k+2) hk) rfl⟩
 have HW:=Lib.hid (HP.out w d l h)
 have hb:=mH h.dk (bz l)
 have C1:=Lib.hid (fun n=>yo (h.drewN n) hl)
 have C2:=Lib.hid (fun w' (h':In F0 w0 w' (eH lb bd l::bJ bd d::R))=>MV h' (bz l) (dx _))
 have C3:=Lib.hid (fun w' (h':In F0 w0 w' (eH lb bd l::bJ bd d::R))=>Si h' (bytesD d (bz l)) n (by omega) (by omega) hl.2.1)
 have C4:=Lib.hid (fun w' (h':In F0 w0 w' (eH lb bd l::bJ bd d::R))=>Yo h' hl ho)
 have HE:Hid (xw n (d,l)=if lI l (bytesD d (bz l)) n then ((d,l),0) else gY (d,l)):=Lib.hid rfl
 clear h hj hk hl ho hn
 generalize bytesD d (bz l)=x at *
 cases hq:lI l x n with
 | true=>
  rw [hq] at HE C3
  clear C4
  go_enter Tryz.func139,Tryz.ntmps139
  go_wp2_with fail
  go_region_held3 (fun w'=>w'.cell? ⟨bx,0,none⟩=some (aF lb)∧w'.cell? ⟨nb,0,none⟩=some (.slice a n c)) (first | exact HW.out | exact hc3 | exact hc2 | exact hc1) (first
   | (go_at_call 142;refine (C1.out 1).mono ?_;rintro e w1 ⟨rfl,g1⟩;have hc1:=HP.out w1 _ _ g1;have K2:=Lib.hid (C2.out w1 g1);clear g1)
   | (go_at_call 141;refine K2.out.mono ?_;rintro e w2 ⟨rfl,g2⟩;have hc2:=HP.out w2 _ _ g2;have K3:=Lib.hid (C3.out w2 g2);have G:=Lib.hid g2;clear g2)
   | (go_at_call 140;refine K3.out.mono ?_;rintro e w3 ⟨rfl,rfl⟩;have hc3:=HP.out _ _ _ G.out))
  go_wp2_with fail
  go_ret
  exact⟨by rw [HE.out];rfl,by rw [HE.out];exact G.out⟩
 | false=>
  rw [hq] at HE C3
  go_enter Tryz.func139,Tryz.ntmps139
  go_wp2_with fail
  go_region_held3 (fun w'=>w'.cell? ⟨bx,0,none⟩=some (aF lb)∧w'.cell? ⟨nb,0,none⟩=some (.slice a n c)) (first | exact HW.out | exact hc3 | exact hc2 | exact hc1) (first
   | (go_at_call 142;refine (C1.out 1).mono ?_;rintro e w1 ⟨rfl,g1⟩;have hc1:=HP.out w1 _ _ g1;have K2:=Lib.hid (C2.out w1 g1);clear g1)
   | (go_at_call 141;refine K2.out.mono ?_;rintro e w2 ⟨rfl,g2⟩;have hc2:=HP.out w2 _ _ g2;have K3:=Lib.hid (C3.out w2 g2);have G:=Lib.hid g2;clear g2)
   | (go_at_call 140;refine K3.out.mono ?_;rintro e w3 ⟨rfl,rfl⟩;have hc3:=HP.out _ _ _ G.out;have K4:=Lib.hid (C4.out _ G.out)))
  obtain⟨e0,e1⟩:=hc3
  clear C1 C2 C3 C4 K2 K3 hc1 hc2 G
  go_wp2_with fail
  refine K4.out.mono ?_
  rintro e w4 ⟨rfl,g4⟩
  have G4:=Lib.hid g4
  clear g4
  go_wp2_with fail
  go_ret
  exact⟨by rw [HE.out];rfl,by rw [HE.out];exact G4.out⟩
theorem Yq (h:In F0 w0 w (eH lb bd l::bJ bd d::R)) (hl:ib l) (ho:d.ops≤100000000) {bx nb c:Nat} {a:Option Addr} {bs:List UInt8} (hn:bs.length≤10000000) (j k m:Nat) (hj:R[j]?=some (Cells bx #[aF lb] 94)) (hk:R[k]?=some (Cells nb #[.slice a bs.length c] 65)) (hB:R[m]?=some (ay 5 1 (.slice a bs.length c) bs.length (eB bs))) :
  Calls Tryz.prog 144 #[.pointer (some ⟨bx,0,none⟩),.pointer (some ⟨nb,0,none⟩)] w fun e w'=>e=.returned (.int .i64 (aI d (bz l) bs).2)∧In F0 w0 w' (eH lb bd l::bJ bd (aI d (bz l) bs).1::R):=by
 have HP:Hid (∀ w' d' l',In F0 w0 w' (eH lb bd l'::bJ bd d'::R)→w'.cell? ⟨bx,0,none⟩=some (aF lb)∧w'.cell? ⟨nb,0,none⟩=some (.slice a bs.length c)∧w'.cell? ⟨lb,0,none⟩=some (aF bd)):=Lib.hid fun w' d' l' h'=>⟨cell_of (h'.block (j+2) hj) rfl,cell_of (h'.block (k+2) hk) rfl,h'.Lt⟩
 have HW:=Lib.hid (HP.out w d l h)
 have C1:=Lib.hid (fun n=>yo (h.drewN n) hl)
 have C2:=Lib.hid (fun w' (h':In F0 w0 w' (eH lb bd l::bJ bd d::R))=>uz h' 1 rfl ho (bz l) (dx _) (m+2) (by omega) hB hn)
 clear h hj hk hl ho hn hB
 go_enter Tryz.func144,Tryz.ntmps144
 go_wp2_with fail
 go_region_held3 (fun w'=>w'.cell? ⟨bx,0,none⟩=some (aF lb)∧w'.cell? ⟨nb,0,none⟩=some (.slice a bs.length c)∧w'.cell? ⟨lb,0,none⟩=some (aF bd)) (first | exact HW.out | exact hc2 | exact hc1) (first
  | (go_at_call 142;refine (C1.out 1).mono ?_;rintro e w1 ⟨rfl,g1⟩;have hc1:=HP.out w1 _ _ g1;have K2:=Lib.hid (C2.out w1 g1);clear g1)
  | (go_at_call 145;refine K2.out.mono ?_;rintro e w2 ⟨rfl,g2⟩;have hc2:=HP.out w2 _ _ g2;have G:=Lib.hid g2;clear g2))
 go_wp2_with fail
 go_ret
 exact⟨rfl,G.out⟩
theorem VA (h:In F0 w0 w (eH lb bd l::bJ bd d::R)) (hl:ib l) (ho:d.ops≤100000000) {bx:Nat} (j:Nat) (hj:R[j]?=some (Cells bx #[aF lb] 94)) :
  Calls Tryz.prog 174 #[.pointer (some ⟨bx,0,none⟩)] w fun e w'=>e=.returned (.int .i64 (aW d (bz l)).2)∧In F0 w0 w' (eH lb bd l::bJ bd (aW d (bz l)).1::R):=by
 have HP:Hid (∀ w' d',In F0 w0 w' (eH lb bd l::bJ bd d'::R)→w'.cell? ⟨bx,0,none⟩=some (aF lb)∧w'.cell? ⟨lb,0,none⟩=some (aF bd)):=Lib.hid fun w' d' h'=>⟨cell_of (h'.block (j+2) hj) rfl,h'.Lt⟩
 have HW:=Lib.hid (HP.out w d h)
 have C1:=Lib.hid (fun n=>yo (h.drewN n) hl)
 have C2:=Lib.hid (fun w' (h':In F0 w0 w' (eH lb bd l::bJ bd d::R))=>oQ h' 1 rfl ho (bz l) (dx _))
 clear h hj hl
 go_enter Tryz.func174,Tryz.ntmps174
 go_wp2_with fail
 go_region_held3 (fun w'=>w'.cell? ⟨bx,0,none⟩=some (aF lb)∧w'.cell? ⟨lb,0,none⟩=some (aF bd)) (first | exact HW.out | exact hc2 | exact hc1) (first | (go_at_call 142;refine (C1.out 1).mono ?_;rintro e w1 ⟨rfl,g1⟩;have hc1:=HP.out w1 _ g1;have K2:=Lib.hid (C2.out w1 g1);clear g1) | (go_at_call 122;refine K2.out.mono ?_;rintro e w2 ⟨rfl,g2⟩;have hc2:=HP.out w2 _ g2;have G:=Lib.hid g2;clear g2))
 go_wp2_with fail
 go_ret
 exact⟨rfl,G.out⟩
end
theorem yt {σ:Type} {P:σ→Prop} {r:σ×Int} {f:σ→σ×Int} (h:P r.1) (hf:∀ s,P s→P (f s).1):P (bM r f).1:=by
 unfold bM;split
 ·exact hf _ h
 ·exact h
theorem kD {σ:Type} {μ:σ→Nat} {r:σ×Int} {f:σ→σ×Int} {a b:Nat} (h:μ r.1≤a) (hf:∀ s,μ (f s).1≤μ s+b):μ (bM r f).1≤a+b:=by
 unfold bM;split
 ·have:=hf r.1;omega
 ·omega
theorem rM {s:DL} (h:ib s.2):ib (aY s).1.2:=by
 unfold aY;split
 ·exact h
 ·exact h
theorem kY (s:DL):(aY s).1.1.ops≤s.1.ops+1:=by
 unfold aY;split
 ·exact tJ s.1
 ·simp
theorem IX {m:cZ} {d:ae} (h:(aG m d).2.1=true):fJ m=true:=by
 unfold aG at h;split at h
 ·cases h
 ·rename_i hm;simpa using hm
theorem OA {m:cZ} {s:DL} (h:ib s.2):ib (dD m s).1.2:=by
 unfold dD
 simp only
 split
 ·rename_i hc
  exact⟨h.1,h.2.1,IX hc⟩
 ·exact h
theorem Sn {s:DL} (h:ib s.2):ib (gY s).1.2:=by
 unfold gY;split
 ·exact h
 ·refine yt (P:=fun t:DL=>ib t.2) (yt (P:=fun t:DL=>ib t.2) (yt (P:=fun t:DL=>ib t.2) h fun t ht=>ht) fun t ht=>ht) fun t ht=>?_
  exact OA ht
theorem OB (s:DL):(gY s).1.1.ops≤s.1.ops+9:=by
 unfold gY;split
 ·show s.1.ops≤_;omega
 ·have h1:=fP s.1 (bz s.2)
  exact kD (μ:=fun t:DL=>t.1.ops) (a:=s.1.ops+4) (b:=5) (kD (μ:=fun t:DL=>t.1.ops) (a:=s.1.ops+3) (b:=1) (kD (μ:=fun t:DL=>t.1.ops) (a:=s.1.ops+1) (b:=2) h1 fun t=>rH _ t.1) fun t=>fP t.1 _) fun t=>oV _ t.1
theorem Sq {n:Nat} {s:DL} (h:ib s.2):ib (xw n s).1.2:=by
 unfold xw;split
 ·exact h
 ·exact Sn h
theorem DI (n:Nat) (s:DL):(xw n s).1.1.ops≤s.1.ops+9:=by
 unfold xw;split
 ·show s.1.ops≤_;omega
 ·exact OB s
def BN (b:List UInt8):List (DL→DL×Int):=[aY,xw b.length,fun t=>gW (fun d=>aI d (bz t.2) b) t]
theorem FQ (kind:Int) (body:List UInt8) (s:DL) (h:gu kind s.2.m.ak body.length=0):bY kind body s=bK (BN (aj ⟨kind.toNat,s.2.m.ak,body⟩)) s:=by
 unfold bY;rw [if_neg (by rw [h];simp)];rfl
theorem IY (kind:Int) (body:List UInt8) (s:DL):(bY kind body s).1.1.ops≤s.1.ops+11:=by
 unfold bY;split
 ·show s.1.ops≤_;omega
 ·exact kD (μ:=fun t:DL=>t.1.ops) (a:=s.1.ops+10) (b:=1) (kD (μ:=fun t:DL=>t.1.ops) (a:=s.1.ops+1) (b:=9) (kY s) fun t=>DI _ t) fun t=>qF t.1 _ _
section
variable {F0:List Nat} {w0 w:World} {R:List ax} {bd lb:Nat} {d:ae} {l:bI}
theorem VB {fb bx nb c:Nat} {a:Option Addr} {b:List UInt8} (hl:ib l) (ho:d.ops≤99999000) (hb:b.length≤10000000)
  (fs:List (FuncId×Array Value×Array Value)) (hfs:fs=[(138,#[aF lb],#[]),(139,#[],#[.pointer (some ⟨bx,0,none⟩),.pointer (some ⟨nb,0,none⟩)]),(144,#[],#[.pointer (some ⟨bx,0,none⟩),.pointer (some ⟨nb,0,none⟩)])])
  (h:In F0 w0 w (Cells fb (fs.map AU).toArray 79::eH lb bd l::bJ bd d::ay 5 1 (.slice a b.length c) b.length (eB b)::Cells nb #[.slice a b.length c] 65::Cells bx #[aF lb] 94::R)) :
  Calls Tryz.prog 118 #[.slice (some ⟨fb,0,none⟩) 3 3] w fun e w'=>e=.returned (.int .i64 (bK (BN b) (d,l)).2)∧In F0 w0 w' (eH lb bd (bK (BN b) (d,l)).1.2::bJ bd (bK (BN b) (d,l)).1.1::R):=by
 have lV:∀ args w',(callFunc 138 args).run Tryz.prog w'=.ok (.enter 138 args) w':=enters_of Tryz.func138 (by kernel_rfl) rfl
 have lW:∀ args w',(callFunc 139 args).run Tryz.prog w'=.ok (.enter 139 args) w':=enters_of Tryz.func139 (by kernel_rfl) rfl
 have uJ:∀ args w',(callFunc 144 args).run Tryz.prog w'=.ok (.enter 144 args) w':=enters_of Tryz.func144 (by kernel_rfl) rfl
 have hlen:fs.length=3:=by rw [hfs];rfl
 have key:=EB (F0:=F0) (w0:=w0) (w:=w) (fun k (s:DL)=>ib s.2∧s.1.ops≤99999000+10 * k)
  (fun s=>eH lb bd s.2::bJ bd s.1::ay 5 1 (.slice a b.length c) b.length (eB b)::Cells nb #[.slice a b.length c] 65::Cells bx #[aF lb] 94::R) fb 79 (BN b) fs (by rw [hlen];rfl) (by omega) (d,l) 3
  ⟨hl,by simp only;omega⟩
  (fun k f hf s hI=>by
   rcases k with _ | _ | _ | k
   ·cases hf;exact⟨rM hI.1,by have:=kY s;omega⟩
   ·cases hf;exact⟨Sq hI.1,by have:=DI b.length s;omega⟩
   ·cases hf;exact⟨hI.1,by have:=qF s.1 (bz s.2) b;show (aI s.1 (bz s.2) b).1.ops≤_;omega⟩
   ·simp [BN] at hf)
  (fun f hf=>by
   rw [hfs] at hf
   simp only [List.mem_cons,List.not_mem_nil,or_false] at hf
   rcases hf with rfl | rfl | rfl
   ·exact lV
   ·exact lW
   ·exact uJ)
  (fun k f g hf hg w' s hI h'=>by
   rw [hfs] at hf
   obtain⟨d1,l1⟩:=s
   obtain⟨i1,i2⟩:=hI
   simp only at i1 i2
   rcases k with _ | _ | _ | k
   ·cases hf;cases hg
    have:=BK (h'.aL (R1:=[_,_,_]) [1,2,0] (by decide) rfl) (by simp only;omega)
    exact this.mono fun e w'' ⟨he,hw⟩=>⟨he,hw.aL (R1:=[_,_,_]) [2,0,1] (by decide) rfl⟩
   ·cases hf;cases hg
    have:=Yp (n:=b.length) (h'.aL (R1:=[_,_,_]) [1,2,0] (by decide) rfl) i1 (by simp only;omega) (bx:=bx) (nb:=nb) (a:=a) (c:=c) hb 3 2 rfl rfl
    exact this.mono fun e w'' ⟨he,hw⟩=>⟨he,hw.aL (R1:=[_,_,_]) [2,0,1] (by decide) rfl⟩
   ·cases hf;cases hg
    have:=Yq (bs:=b) (h'.aL (R1:=[_,_,_]) [1,2,0] (by decide) rfl) i1 (by simp only;omega) (bx:=bx) (nb:=nb) (a:=a) (c:=c) hb 3 2 1 rfl rfl rfl
    exact this.mono fun e w'' ⟨he,hw⟩=>⟨he,hw.aL (R1:=[_,_,_]) [2,0,1] (by decide) rfl⟩
   ·simp at hf) h
 rw [hlen] at key
 exact key.mono fun e w' ⟨he,hw⟩=>⟨he,hw.drop.aL (R1:=[_,_,_,_,_]) [0,1] (by decide) rfl⟩
theorem Sr (h:In F0 w0 w (eH lb bd l::bJ bd d::R)) (hl:ib l) (ho:d.ops≤99999000) (kind:Int) {A:Option Addr} {c:Nat} {body:List UInt8} (hlen:body.length≤9000000) (hs:∀ w',In F0 w0 w' R→Src w' A body.length 1 (eB body)) :
  Calls Tryz.prog 67 #[aF lb,.int .i64 kind,.slice A body.length c] w fun e w'=>e=.returned (.int .i64 (bY kind body (d,l)).2)∧In F0 w0 w' (eH lb bd (bY kind body (d,l)).1.2::bJ bd (bY kind body (d,l)).1.1::R):=by
 obtain⟨a,ca,h0⟩:=h.lX
 have c2:(w.alloc (.cells #[aF lb] 94)).cell? ⟨lb,2,none⟩=some (.int .i64 l.m.ak):=mY (cell_of (h0.block 1 rfl) rfl)
 have h1:=h.cells #[aF lb] 94
 have C1:=Lib.hid (Ep h1 kind l.m.ak (A:=A) (c:=c) (body:=body) (by omega) (fun w' h'=>hs w' h'.drop.drop.drop))
 clear h h0 h1 hs
 by_cases hz:gu kind l.m.ak body.length=0
 ·have HE:=Lib.hid (show bY kind body (d,l)=bK (BN (aj ⟨kind.toNat,l.m.ak,body⟩)) (d,l) from FQ kind body (d,l) hz)
  have HPB:Hid (xE kind l.m.ak body=aj ⟨kind.toNat,l.m.ak,body⟩):=Lib.hid (by unfold xE;rw [if_pos hz];simp)
  have HZ:=Lib.hid hz
  have Gx:Hid ((aj ⟨kind.toNat,l.m.ak,body⟩).length≤10000000):=Lib.hid (by rw [dJ];show 16+body.length≤_;omega)
  have MW:=Lib.hid (And.intro hl ho)
  clear hz hl ho hlen
  go_enter Tryz.func67,Tryz.ntmps67
  go_wp2_with fail
  refine C1.out.mono ?_
  rintro e w1 ⟨v,rfl,g1⟩
  rw [HZ.out]
  rw [HPB.out] at g1
  generalize aj ⟨kind.toNat,l.m.ak,body⟩=b at *
  obtain⟨F1,r1⟩:=g1.get 0 rfl
  obtain⟨a1,c1,rfl,-,-,-⟩:=r1.shape
  have d0:(w1.alloc (.cells #[.slice a1 b.length c1] 65)).cell? ⟨w.heap.size,0,none⟩=some (aF lb):=mY (cell_of (g1.block 1 rfl) rfl)
  have g2:=g1.cells #[.slice a1 b.length c1] 65
  have g3:=g2.cells #[.func (.func 138) #[aF lb] #[],.func (.func 139) #[] #[.pointer (some ⟨w.heap.size,0,none⟩),.pointer (some ⟨w1.heap.size,0,none⟩)],.func (.func 144) #[] #[.pointer (some ⟨w.heap.size,0,none⟩),.pointer (some ⟨w1.heap.size,0,none⟩)]] 79
  simp only [World.size_alloc] at g3
  have K:=VB (R:=R) (bx:=w.heap.size) (nb:=w1.heap.size) (fb:=w1.heap.size+1) MW.out.1 MW.out.2 Gx.out _ rfl (g3.aL (R1:=[_,_,_,_,_,_]) [0,4,5,2,1,3] (by decide) rfl)
  rw [← HE.out] at K
  have KH:=Lib.hid K
  clear K g1 g2 g3 r1 C1 MW HE HPB HZ Gx
  go_wp2_with fail
  refine KH.out.mono ?_
  rintro e w2 ⟨rfl,g4⟩
  have G:=Lib.hid g4
  clear g4 KH
  go_wp2_with fail
  go_ret
  exact⟨rfl,G.out⟩
 ·have HE:Hid (bY kind body (d,l)=((d,l),gu kind l.m.ak body.length)):=Lib.hid (by unfold bY;rw [if_pos hz])
  have q:(gu kind l.m.ak body.length != 0)=true:=by rw [bne_iff_ne];exact hz
  clear hz hl ho hlen
  go_enter Tryz.func67,Tryz.ntmps67
  go_wp2_with fail
  refine C1.out.mono ?_
  rintro e w1 ⟨v,rfl,g1⟩
  obtain⟨F1,r1⟩:=g1.get 0 rfl
  obtain⟨a1,c1,rfl,-,-,-⟩:=r1.shape
  have G:=Lib.hid ((g1.alloc (.cells #[.slice a1 (xE kind l.m.ak body).length c1] 65)).drop.drop)
  clear g1 r1 C1
  go_wp2_with fail
  go_ret
  exact⟨by rw [HE.out];rfl,by rw [HE.out];exact G.out⟩
def Su:List (DL→DL×Int):=[aY,fun t=>gW (fun d=>aW d (bz t.2)) t]
theorem OC (s:DL):(fM s).1.1.ops≤s.1.ops+2:=kD (μ:=fun t:DL=>t.1.ops) (a:=s.1.ops+1) (b:=1) (kY s) fun t=>fP t.1 _
theorem Sv {fb bx:Nat} (hl:ib l) (ho:d.ops≤99999000)
  (fs:List (FuncId×Array Value×Array Value)) (hfs:fs=[(138,#[aF lb],#[]),(174,#[],#[.pointer (some ⟨bx,0,none⟩)])])
  (h:In F0 w0 w (Cells fb (fs.map AU).toArray 79::eH lb bd l::bJ bd d::Cells bx #[aF lb] 94::R)) :
  Calls Tryz.prog 118 #[.slice (some ⟨fb,0,none⟩) 2 2] w fun e w'=>e=.returned (.int .i64 (fM (d,l)).2)∧In F0 w0 w' (eH lb bd (fM (d,l)).1.2::bJ bd (fM (d,l)).1.1::R):=by
 have lV:∀ args w',(callFunc 138 args).run Tryz.prog w'=.ok (.enter 138 args) w':=enters_of Tryz.func138 (by kernel_rfl) rfl
 have lW:∀ args w',(callFunc 174 args).run Tryz.prog w'=.ok (.enter 174 args) w':=enters_of Tryz.func174 (by kernel_rfl) rfl
 have hlen:fs.length=2:=by rw [hfs];rfl
 have key:=EB (F0:=F0) (w0:=w0) (w:=w) (fun k (s:DL)=>ib s.2∧s.1.ops≤99999000+10 * k)
  (fun s=>eH lb bd s.2::bJ bd s.1::Cells bx #[aF lb] 94::R) fb 79 Su fs (by rw [hlen];rfl) (by omega) (d,l) 2
  ⟨hl,by simp only;omega⟩
  (fun k f hf s hI=>by
   rcases k with _ | _ | k
   ·cases hf;exact⟨rM hI.1,by have:=kY s;omega⟩
   ·cases hf;exact⟨hI.1,by have:=fP s.1 (bz s.2);show (aW s.1 (bz s.2)).1.ops≤_;omega⟩
   ·simp [Su] at hf)
  (fun f hf=>by
   rw [hfs] at hf
   simp only [List.mem_cons,List.not_mem_nil,or_false] at hf
   rcases hf with rfl | rfl
   ·exact lV
   ·exact lW)
  (fun k f g hf hg w' s hI h'=>by
   rw [hfs] at hf
   obtain⟨d1,l1⟩:=s
   obtain⟨i1,i2⟩:=hI
   simp only at i1 i2
   rcases k with _ | _ | k
   ·cases hf;cases hg
    have:=BK (h'.aL (R1:=[_,_,_]) [1,2,0] (by decide) rfl) (by simp only;omega)
    exact this.mono fun e w'' ⟨he,hw⟩=>⟨he,hw.aL (R1:=[_,_,_]) [2,0,1] (by decide) rfl⟩
   ·cases hf;cases hg
    have:=VA (h'.aL (R1:=[_,_,_]) [1,2,0] (by decide) rfl) i1 (by simp only;omega) (bx:=bx) 1 rfl
    exact this.mono fun e w'' ⟨he,hw⟩=>⟨he,hw.aL (R1:=[_,_,_]) [2,0,1] (by decide) rfl⟩
   ·simp at hf) h
 rw [hlen] at key
 exact key.mono fun e w' ⟨he,hw⟩=>⟨he,hw.drop.aL (R1:=[_,_,_]) [0,1] (by decide) rfl⟩
theorem VC (h:In F0 w0 w (eH lb bd l::bJ bd d::R)) (hl:ib l) (ho:d.ops≤99999000) :
  Calls Tryz.prog 94 #[aF lb] w fun e w'=>e=.returned (.int .i64 (fM (d,l)).2)∧In F0 w0 w' (eH lb bd (fM (d,l)).1.2::bJ bd (fM (d,l)).1.1::R):=by
 have g3:=(h.cells #[aF lb] 94).cells #[.func (.func 138) #[aF lb] #[],.func (.func 174) #[] #[.pointer (some ⟨w.heap.size,0,none⟩)]] 79
 simp only [World.size_alloc] at g3
 have KH:=Lib.hid (Sv (R:=R) (bx:=w.heap.size) (fb:=w.heap.size+1) hl ho _ rfl (g3.aL (R1:=[_,_,_,_]) [0,2,3,1] (by decide) rfl))
 clear h g3
 go_enter Tryz.func94,Tryz.ntmps94
 go_wp2_with fail
 refine KH.out.mono ?_
 rintro e w2 ⟨rfl,g4⟩
 have G:=Lib.hid g4
 clear g4 KH
 go_wp2_with fail
 go_ret
 exact⟨rfl,G.out⟩
end
end Go.Proofs.YtanhdliaaccacaaGreat
