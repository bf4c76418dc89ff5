/- Rows.StoreRefusesSaid -/
import Derived.Test.YtpmmiljakbojaaaGreatRF3
import Derived.Laws.Bits64b
import Derived.Test.YtpmmiljakbojaaaGreatRF1
import Derived.ProofKit
import Derived.SliceStrings
import Derived.Deep.Slices
import Derived.Deep.Fields
namespace Go.Proofs.YtpmmiljakbojaaaGreat
open Go.RowKit
open Go.RowKit Go.ChangeShapes Go.WideShapes Go.Deep
set_option linter.unusedVariables false
set_option maxHeartbeats 64000000
set_option maxRecDepth 100000
section
variable {F0:List Nat} {w0 w:World} {R:List Asrt} {bw:Nat} {l:List UInt8}
theorem o_wraw (h:In F0 w0 w R) (i:Nat) (hA:R[i]?=some (WA bw l)) (hl:l.length≤1000000) {A:Option Addr} {c:Nat} {bs:List UInt8} (hs:Src w A bs.length 1 (u8s bs)) (hb:bs.length≤10000000) :
  Calls Tryz.prog 124 #[.pointer (some ⟨bw,0,none⟩),.slice A bs.length c] w fun e w'=>e=.returned (.tuple #[])∧In F0 w0 w' (R.set i (WA bw (l++bs))):=by
 have hi:=(List.getElem?_eq_some_iff.1 hA).1
 obtain⟨v,h1⟩:=h.ex (G:=fun v=>Star (WrR bw v l)) i hA (fun v=>Framed.star WrR.framed)
 have h2:=h1.split (A:=Cells bw #[v] 143) (B:=RowA 5 1 v l.length (u8s l)) i (by simp [hi,WrR]) (Cells.framed _ _ _) (RowA.framed _ _ _ _ _)
 rw [List.set_set] at h2
 obtain⟨F,hr⟩:=h2.get 0 rfl
 obtain⟨a,cap,rfl,-,-,-⟩:=hr.shape
 have hbk:=h2.block (i+1) (b:=bw) (C:=#[.slice a l.length cap]) (T:=143) (by rw [List.getElem?_cons_succ,List.getElem?_set_self hi])
 have c0:w.cell? ⟨bw,0,none⟩=some (.slice a l.length cap):=cell_of hbk rfl
 have HH:=Lib.hid h2
 have SS:=Lib.hid hs
 have HP:Hid (∀ w' v',In F0 w0 w' (RowA 5 1 v' (l.length+bs.length) (u8s l++u8s bs)::R.set i (Cells bw #[.slice a l.length cap] 143)) →
   w'.cell? ⟨bw,0,none⟩=some (.slice a l.length cap)∧w'.frozen? ⟨bw,0,none⟩=false∧In F0 w0 (w'.setCell ⟨bw,0,none⟩ v') (R.set i (WA bw (l++bs)))):=Lib.hid fun w' v' h'=>by
  have hb:=h'.block (i+1) (b:=bw) (C:=#[.slice a l.length cap]) (T:=143) (by rw [List.getElem?_cons_succ,List.getElem?_set_self hi])
  refine⟨cell_of hb rfl,free_of hb,?_⟩
  have h3:=h'.put (b:=bw) (C:=#[.slice a l.length cap]) (T:=143) (i+1) (by rw [List.getElem?_cons_succ,List.getElem?_set_self hi]) 0 v'
  have h4:In F0 w0 (w'.setCell ⟨bw,0,none⟩ v') (RowA 5 1 v' (l++bs).length (u8s (l++bs))::R.set i (Cells bw #[v'] 143)):=by
   rw [List.length_append,← u8s_append]
   simpa [List.set_set] using h3
  have h5:=h4.fold (C:=WA bw (l++bs)) (A:=Cells bw #[v'] 143) i (by simp [hi]) (WA.framed _ _) (fun F hF=>⟨v',hF⟩)
  rwa [List.set_set] at h5
 clear h h1 h2 hA hr hbk hs hi
 go_enter Tryz.func124,Tryz.ntmps124
 go_wp2_with (at_builtin;refine app_list rfl HH.out 0 rfl (.tmp 10) (.tmp 11) 41 (by rfl) Tryz.underlying41 infoByte (by decide) (by decide) (by rfl) (by rfl) SS.out (u8s_one _) (by omega) ?_)
 intro v' w3 ho hg
 obtain⟨Fw,hw⟩:=ho.get 0 rfl
 obtain⟨aw,cw,rfl,-,-,-⟩:=hw.shape
 obtain⟨d0,d1,hfin⟩:=HP.out w3 _ ho
 have HF:=Lib.hid hfin
 clear ho hw hfin hg HH SS HP
 go_wp2_with fail
 go_end0
 exact⟨rfl,HF.out⟩
def RdA (br:Nat) (l:List UInt8) (e:Int):Asrt:=fun w F=>∃ v,w.heap[br]?=some (.cells #[v,.int .i64 e] 219 (0,0)) ∧
 ((v=.slice none 0 0∧l=[]∧F=[br])∨∃ g o cap,v=.slice (some ⟨g,o,none⟩) l.length cap∧l.length≤cap∧cap≤maxLen∧g≠br∧F=[br,g]∧g < w.heap.size∧∀ j u,(u8s l)[j]?=some u→w.cell? ⟨g,o+j,none⟩=some u)
theorem RdA.framed (br:Nat) (l:List UInt8) (e:Int):Framed (RdA br l e):=by
 refine⟨?_,?_⟩
 ·rintro w w' F ⟨v,hb,h⟩ hk
  rcases h with ⟨h1,h2,rfl⟩|⟨g,o,cap,h1,h2,h3,h4,rfl,h5,h6⟩
  ·exact⟨v,by rw [hk br (by simp)];exact hb,Or.inl ⟨h1,h2,rfl⟩⟩
  ·have hg:=hk g (by simp)
   refine⟨v,by rw [hk br (by simp)];exact hb,Or.inr ⟨g,o,cap,h1,h2,h3,h4,rfl,?_,fun j u hu=>by rw [World.cell?_of_block (a:=⟨g,o+j,none⟩) hg];exact h6 j u hu⟩⟩
   have:w.heap[g]?=some w.heap[g]:=Array.getElem?_eq_getElem h5
   exact hp_lt (hg.trans this)
 ·rintro w F ⟨v,hb,h⟩ b hbF
  rcases h with ⟨h1,h2,rfl⟩|⟨g,o,cap,h1,h2,h3,h4,rfl,h5,h6⟩
  ·simp at hbF;subst hbF;exact hp_lt hb
  ·simp at hbF
   rcases hbF with rfl | rfl
   ·exact hp_lt hb
   ·exact h5
def rdTake (l:List UInt8) (e:Int) (n:Nat):List UInt8×List UInt8×Int:=if e≠0 then ([],l,e) else if l.length < n then ([],[],2) else (l.take n,l.drop n,0)
def TakePost (br:Nat) (t:List UInt8×List UInt8×Int) (i:Nat) (F0:List Nat) (w0:World) (R:List Asrt) (e:Ending) (w':World):Prop:=
 ∃ A c,e=.returned (.slice A t.1.length c)∧(A=none→c=0∧t.1=[])∧Src w' A t.1.length 1 (u8s t.1)∧In F0 w0 w' (R.set i (RdA br t.2.1 t.2.2))
theorem run_pre_at (g o:Nat) (n cap i:Nat) (h1:i≤cap) (w:World):(Instr.slice 41 (.slice (some ⟨g,o,none⟩) n cap) none (some (.int .i64 i)) none).run Tryz.prog w=.ok (.slice (some ⟨g,o,none⟩) i cap) w:=
 run_prefix_at Tryz.underlying41 infoByte g o n cap i h1 w
theorem o_rtake {br:Nat} {e:Int} (h:In F0 w0 w R) (i:Nat) (hA:R[i]?=some (RdA br l e)) (n:Nat) (hn:n≤100000000) :
  Calls Tryz.prog 198 #[.pointer (some ⟨br,0,none⟩),.int .i64 n] w (TakePost br (rdTake l e n) i F0 w0 R):=by
 have hi:=(List.getElem?_eq_some_iff.1 hA).1
 obtain⟨F,v,hb,hv⟩:=h.get i hA
 have c1:w.cell? ⟨br,1,none⟩=some (.int .i64 e):=cell_of hb rfl
 have c0:w.cell? ⟨br,0,none⟩=some v:=cell_of hb rfl
 have f0:w.frozen? ⟨br,0,none⟩=false:=free_of hb
 have f1:w.frozen? ⟨br,1,none⟩=false:=free_of hb
 by_cases he:e=0
 ·subst he
  by_cases hlt:l.length < n
  ·have HE:Hid (TakePost br (rdTake l 0 n) i F0 w0 R (.returned (.slice none 0 0)) ((w.setCell ⟨br,1,none⟩ (.int .i64 2)).setCell ⟨br,0,none⟩ (.slice none 0 0))):=Lib.hid (by
    have e1:rdTake l 0 n=([],[],2):=by unfold rdTake;simp [hlt]
    rw [e1]
    refine⟨none,0,rfl,fun _=>⟨rfl,rfl⟩,Src.nil _ _ _,h.step i hA (RdA.framed _ _ _) fun F hF=>?_⟩
    obtain⟨v',hb',hv'⟩:=hF
    rw [hb] at hb';cases hb'
    have hbr:br∈F:=by rcases hv' with ⟨_,_,rfl⟩|⟨g,o,cap,_,_,_,_,rfl,_⟩ <;> simp
    refine⟨[br],⟨.slice none 0 0,?_,Or.inl ⟨rfl,rfl,rfl⟩⟩,fun b hb2=>by simp at hb2;subst hb2;exact Or.inl hbr,?_⟩
    ·have:=hp_setCell_same (o:=0) (v:=.slice none 0 0) (hp_setCell_same (o:=1) (v:=.int .i64 2) hb)
     simpa using this
    ·exact ((Mod.refl F w).setCell (Or.inl hbr) _).setCell (Or.inl hbr) _)
   have hlen:∃ a cap,v=.slice a l.length cap:=by
    rcases hv with ⟨rfl,rfl,_⟩|⟨g,o,cap,rfl,_⟩
    ·exact⟨none,0,rfl⟩
    ·exact⟨_,_,rfl⟩
   obtain⟨a,cap,rfl⟩:=hlen
   have d0:(w.setCell ⟨br,1,none⟩ (.int .i64 2)).cell? ⟨br,0,none⟩=some (.slice a l.length cap):=cell_of (hp_setCell_same (o:=1) (v:=.int .i64 2) hb) rfl
   have g0:(w.setCell ⟨br,1,none⟩ (.int .i64 2)).frozen? ⟨br,0,none⟩=false:=free_of (hp_setCell_same (o:=1) (v:=.int .i64 2) hb)
   clear h hA hb hv hi
   have hlt':(l.length:Int) < (n:Int):=by omega
   clear hlt
   go_enter Tryz.func198,Tryz.ntmps198
   go_wp2_with fail
   go_ret
   exact HE.out
  ·have e1:rdTake l 0 n=(l.take n,l.drop n,0):=by unfold rdTake;simp [hlt]
   have hge:n≤l.length:=by omega
   rcases hv with ⟨rfl,rfl,_⟩|⟨g,o,cap,rfl,h1,h2,h3,rfl,h4,h5⟩
   ·obtain rfl:n=0:=by simpa using hge
    have HE:Hid (TakePost br (rdTake [] 0 0) i F0 w0 R (.returned (.slice none 0 0)) (w.setCell ⟨br,0,none⟩ (.slice none 0 0))):=Lib.hid (by
     rw [e1]
     refine⟨none,0,rfl,fun _=>⟨rfl,rfl⟩,Src.nil _ _ _,h.step i hA (RdA.framed _ _ _) fun F hF=>?_⟩
     obtain⟨v',hb',hv'⟩:=hF
     rw [hb] at hb';cases hb'
     have hbr:br∈F:=by rcases hv' with ⟨_,_,rfl⟩|⟨g,o,cap,_,_,_,_,rfl,_⟩ <;> simp
     refine⟨[br],⟨.slice none 0 0,?_,Or.inl ⟨rfl,rfl,rfl⟩⟩,fun b hb2=>by simp at hb2;subst hb2;exact Or.inl hbr,(Mod.refl F w).setCell (Or.inl hbr) _⟩
     have:=hp_setCell_same (o:=0) (v:=.slice none 0 0) hb
     simpa using this)
    have r1:(Instr.slice 41 (.slice none 0 0) none (some (.int .i64 0)) none).run Tryz.prog w=.ok (.slice none 0 0) w:=run_prefix_none Tryz.underlying41 infoByte 0 0 0 (Nat.le_refl _) w
    have r2:(Instr.slice 41 (.slice none 0 0) (some (.int .i64 0)) none none).run Tryz.prog w=.ok (.slice none 0 0) w:=run_suffix Tryz.underlying41 infoByte none 0 0 0 (Nat.le_refl _) w
    clear h hA hb hi hlt hge
    go_enter Tryz.func198,Tryz.ntmps198
    go_wp2_with fail
    go_ret
    exact HE.out
   ·have HE:Hid (TakePost br (rdTake l 0 n) i F0 w0 R (.returned (.slice (some ⟨g,o,none⟩) n cap)) (w.setCell ⟨br,0,none⟩ (.slice (sufA (some ⟨g,o,none⟩) cap n 1) (l.length - n:Nat) (cap - n)))):=Lib.hid (by
     rw [e1]
     have hln:(l.take n).length=n:=by rw [List.length_take];omega
     have hset:=fun (u:Value)=>hp_setCell_same (o:=0) (v:=u) hb
     have hoth:∀ (u:Value) k,(w.setCell ⟨br,0,none⟩ u).cell? ⟨g,k,none⟩=w.cell? ⟨g,k,none⟩:=fun u k=>World.cell?_of_block (hp_setCell_other (a:=⟨br,0,none⟩) (v:=u) h3)
     refine⟨some ⟨g,o,none⟩,cap,by rw [hln],(fun e=>by cases e),⟨by rw [u8s_length,Nat.mul_one],fun h0=>⟨_,rfl,fun j u hu=>?_⟩⟩,h.step i hA (RdA.framed _ _ _) fun F hF=>?_⟩
     ·rw [add_at,hoth]
      rw [← u8s_take,List.getElem?_take] at hu
      split at hu
      ·exact h5 j u hu
      ·cases hu
     ·obtain⟨v',hb',hv'⟩:=hF
      rw [hb] at hb';cases hb'
      have hFF:F=[br,g]:=by
       rcases hv' with ⟨e,_⟩|⟨g',o',cap',e,_,_,_,rfl,_⟩
       ·cases e
       ·simp only [Value.slice.injEq,Option.some.injEq,Addr.mk.injEq] at e;rw [e.1.1]
      subst hFF
      have hcell:∀ (k j:Nat) (u:Value),(u8s (l.drop n))[j]?=some u→w.cell? ⟨g,o+(n+j),none⟩=some u:=fun k j u hu=>by
       rw [← u8s_drop,List.getElem?_drop] at hu
       exact h5 _ u hu
      refine⟨[br,g],⟨_,hset _,Or.inr ?_⟩,Grew.refl _ _,(Mod.refl _ w).setCell (Or.inl (by simp)) _⟩
      unfold sufA
      by_cases hc:cap=n
      ·refine⟨g,o,cap - n,by rw [if_pos hc,List.length_drop],by rw [List.length_drop];omega,by omega,h3,rfl,by simpa using h4,fun j u hu=>?_⟩
       rw [← u8s_drop,List.getElem?_drop] at hu
       have:n+j < (u8s l).length:=(List.getElem?_eq_some_iff.1 hu).1
       rw [u8s_length] at this;omega
      ·refine⟨g,o+n,cap - n,by rw [if_neg hc,List.length_drop];simp [add_at],by rw [List.length_drop];omega,by omega,h3,rfl,by simpa using h4,fun j u hu=>?_⟩
       rw [hoth,Nat.add_assoc]
       exact hcell 0 j u hu)
    have r1:=run_pre_at g o l.length cap n (by omega) w
    have r2:=run_suffix Tryz.underlying41 infoByte (some ⟨g,o,none⟩) l.length cap n hge w
    have hge':(n:Int)≤(l.length:Int):=by omega
    clear h hA hb hi hlt h5 e1
    generalize sufA (some ⟨g,o,none⟩) cap n 1=sa at *
    go_enter Tryz.func198,Tryz.ntmps198
    go_wp2_with fail
    go_ret
    exact HE.out
 ·have HE:Hid (TakePost br (rdTake l e n) i F0 w0 R (.returned (.slice none 0 0)) w):=Lib.hid (by
   have e1:rdTake l e n=([],l,e):=by unfold rdTake;rw [if_pos he]
   rw [e1]
   refine⟨none,0,rfl,fun _=>⟨rfl,rfl⟩,Src.nil _ _ _,?_⟩
   rwa [set_same hA])
  have q:(e != 0)=true:=by rw [bne_iff_ne];exact he
  clear h hA hb hv hi he
  go_enter Tryz.func198,Tryz.ntmps198
  go_wp2_with fail
  go_ret
  exact HE.out
def NumRel (bs:List UInt8) (n k:Value):Prop:=∃ i:Nat,i≤bs.length∧k=.int .i64 i∧n=.int .u64 (num (bs.take i))
theorem or_byte {m:Nat} (x:UInt8) (hm:m < 72057594037927936):bits .or .u64 ((m:Int) * 256) (x.toNat:Int)=((m * 256+x.toNat:Nat):Int):=by
 have hx:=x.toNat_lt
 rw [show ((m:Int) * 256)=((m * 256:Nat):Int) by omega]
 rw [bits_or_u64_nat _ _ (by omega) (by omega)]
 congr 1
 have e:m * 256=m <<< 8:=by rw [Nat.shiftLeft_eq]
 rw [e,← Nat.shiftLeft_add_eq_or_of_lt (by omega),← e]
def NumPost (br:Nat) (t:List UInt8×List UInt8×Int) (i:Nat) (F0:List Nat) (w0:World) (R:List Asrt) (e:Ending) (w':World):Prop:=
 e=.returned (.int .u64 (num t.1))∧In F0 w0 w' (R.set i (RdA br t.2.1 t.2.2))
theorem num_take_lt (bs:List UInt8) (i:Nat) (h:bs.length≤8) (hi:i < bs.length):num (bs.take i) < 72057594037927936:=by
 have h1:=num_lt (bs.take i)
 have h2:(bs.take i).length≤7:=by rw [List.length_take];omega
 have h3:256 ^ (bs.take i).length≤256 ^ 7:=Nat.pow_le_pow_right (by omega) h2
 omega
theorem rdTake_len (l:List UInt8) (e:Int) (n:Nat):(rdTake l e n).1.length≤n:=by
 unfold rdTake;split
 ·simp
 ·split
  ·simp
  ·rw [List.length_take];omega
theorem o_rnum {br:Nat} {e:Int} (h:In F0 w0 w R) (i:Nat) (hA:R[i]?=some (RdA br l e)) (n:Nat) (hn:n≤8) :
  Calls Tryz.prog 162 #[.pointer (some ⟨br,0,none⟩),.int .i64 n] w (NumPost br (rdTake l e n) i F0 w0 R):=by
 have HC:=Lib.hid (o_rtake h i hA n (by omega))
 have hl8:(rdTake l e n).1.length≤8:=Nat.le_trans (rdTake_len l e n) hn
 clear h hA
 go_enter Tryz.func162,Tryz.ntmps162
 go_wp2_with fail
 refine HC.out.mono ?_
 rintro e' w1 ⟨A,c,rfl,-,hs,ho⟩
 have HF:Hid (NumPost br (rdTake l e n) i F0 w0 R (.returned (.int .u64 (num (rdTake l e n).1))) w1):=Lib.hid ⟨rfl,ho⟩
 have SS:=Lib.hid hs
 clear hs ho HC
 generalize (rdTake l e n)=t at *
 obtain⟨bs,l',e''⟩:=t
 simp only at hl8 SS HF ⊢
 go_wp2_with fail
 go_loop [5,12] (NumRel bs) (fun _ k=>bs.length - (intOf k).toNat)
 case atStart=>exact⟨0,Nat.zero_le _,rfl,rfl⟩
 case round=>
  obtain⟨j,hj,rfl,rfl⟩:=hrel
  by_cases hlt:j < bs.length
  ·obtain⟨x,hx⟩:∃ x,bs[j]?=some x:=⟨bs[j],List.getElem?_eq_getElem hlt⟩
   obtain⟨ad,rfl,hc⟩:=SS.out.at' (by omega)
   have c0:=hc j (.int .u8 x.toNat) (by simp [u8s,hx])
   have hlt':(j:Int) < (bs.length:Int):=by omega
   have hm:=num_take_lt bs j hl8 hlt
   have HX:Hid (num (bs.take (j+1))=num (bs.take j) * 256+x.toNat):=Lib.hid (by rw [List.take_add_one,hx];exact num_snoc _ _)
   have hq:=or_byte x hm
   have hxl:=x.toNat_lt
   clear hx hc
   generalize num (bs.take j)=m at *
   generalize x.toNat=xn at *
   have q1:IntKind.u64.wrap ((m:Int) * 256)=((m * 256:Nat):Int):=by rw [IntKind.wrap_u64];omega
   go_wp2_with fail
   go_round
   case rel=>exact⟨j+1,by omega,by go_num,by rw [HX.out];go_num⟩
   case measure=>simp [intOf];omega
  ·have hjl:j=bs.length:=by omega
   subst hjl
   rw [List.take_length]
   go_wp2_with fail
   go_ret
   exact HF.out
section
variable {F0:List Nat} {w0 w:World} {R:List Asrt} {l:List UInt8} {br:Nat} {e:Int}
theorem num_lt_of {bs:List UInt8} {k:Nat} (h:bs.length≤k):num bs < 256 ^ k:=Nat.lt_of_lt_of_le (num_lt bs) (Nat.pow_le_pow_right (by omega) h)
def RdPost (v:Value) (br:Nat) (t:List UInt8×List UInt8×Int) (i:Nat) (F0:List Nat) (w0:World) (R:List Asrt) (e:Ending) (w':World):Prop:=
 e=.returned v∧In F0 w0 w' (R.set i (RdA br t.2.1 t.2.2))
theorem o_ru8 (h:In F0 w0 w R) (i:Nat) (hA:R[i]?=some (RdA br l e)) :
  Calls Tryz.prog 160 #[.pointer (some ⟨br,0,none⟩)] w (RdPost (.int .i64 (num (rdTake l e 1).1)) br (rdTake l e 1) i F0 w0 R):=by
 have HC:=Lib.hid (o_rnum h i hA 1 (by omega))
 have hlt:=num_lt_of (rdTake_len l e 1)
 clear h hA
 generalize rdTake l e 1=t at *
 have hlt':num t.1 < 256:=by simpa using hlt
 clear hlt
 go_enter Tryz.func160,Tryz.ntmps160
 go_wp2_with fail
 refine HC.out.mono ?_
 rintro e' w1 ⟨rfl,ho⟩
 have HO:=Lib.hid ho
 clear ho HC
 generalize num t.1=m at *
 go_wp2_with fail
 go_ret
 exact⟨rfl,HO.out⟩
theorem o_ru16 (h:In F0 w0 w R) (i:Nat) (hA:R[i]?=some (RdA br l e)) :
  Calls Tryz.prog 139 #[.pointer (some ⟨br,0,none⟩)] w (RdPost (.int .i64 (num (rdTake l e 2).1)) br (rdTake l e 2) i F0 w0 R):=by
 have HC:=Lib.hid (o_rnum h i hA 2 (by omega))
 have hlt:=num_lt_of (rdTake_len l e 2)
 clear h hA
 generalize rdTake l e 2=t at *
 have hlt':num t.1 < 65536:=by simpa using hlt
 clear hlt
 go_enter Tryz.func139,Tryz.ntmps139
 go_wp2_with fail
 refine HC.out.mono ?_
 rintro e' w1 ⟨rfl,ho⟩
 have HO:=Lib.hid ho
 clear ho HC
 generalize num t.1=m at *
 go_wp2_with fail
 go_ret
 exact⟨rfl,HO.out⟩
theorem o_ru32 (h:In F0 w0 w R) (i:Nat) (hA:R[i]?=some (RdA br l e)) :
  Calls Tryz.prog 138 #[.pointer (some ⟨br,0,none⟩)] w (RdPost (.int .u32 (num (rdTake l e 4).1)) br (rdTake l e 4) i F0 w0 R):=by
 have HC:=Lib.hid (o_rnum h i hA 4 (by omega))
 have hlt:=num_lt_of (rdTake_len l e 4)
 clear h hA
 generalize rdTake l e 4=t at *
 have hlt':num t.1 < 4294967296:=by simpa using hlt
 clear hlt
 go_enter Tryz.func138,Tryz.ntmps138
 go_wp2_with fail
 refine HC.out.mono ?_
 rintro e' w1 ⟨rfl,ho⟩
 have HO:=Lib.hid ho
 clear ho HC
 generalize num t.1=m at *
 go_wp2_with fail
 go_ret
 exact⟨rfl,HO.out⟩
theorem pow8:256 ^ 8=18446744073709551616:=by rfl
def sig64 (m:Nat):Int:=wrap64 m
theorem ret_same {v v':Value} (h:v=v'):Ending.returned v=Ending.returned v':=by rw [h]
theorem o_ri64 (h:In F0 w0 w R) (i:Nat) (hA:R[i]?=some (RdA br l e)) :
  Calls Tryz.prog 166 #[.pointer (some ⟨br,0,none⟩)] w (RdPost (.int .i64 (sig64 (num (rdTake l e 8).1))) br (rdTake l e 8) i F0 w0 R):=by
 have HC:=Lib.hid (o_rnum h i hA 8 (by omega))
 have hlt:=num_lt_of (rdTake_len l e 8)
 clear h hA
 generalize rdTake l e 8=t at *
 have hlt':num t.1 < 18446744073709551616:=pow8 ▸ hlt
 clear hlt
 go_enter Tryz.func166,Tryz.ntmps166
 go_wp2_with fail
 refine HC.out.mono ?_
 rintro e' w1 ⟨rfl,ho⟩
 have HO:=Lib.hid ho
 clear ho HC
 have HS:Hid (sig64 (num t.1)=wrap64 (num t.1)):=Lib.hid rfl
 generalize num t.1=m at *
 go_wp2_with fail
 go_ret
 exact⟨by rw [HS.out];exact ret_same rfl,HO.out⟩
theorem o_clone (h:In F0 w0 w R) {A:Option Addr} {c:Nat} {bs:List UInt8} (hn:A=none→c=0∧bs=[]) (hs:Src w A bs.length 1 (u8s bs)) (hl:bs.length≤100000000) :
  Calls Tryz.prog 30 #[.slice A bs.length c] w fun e w'=>∃ v,e=.returned v∧In F0 w0 w' (RowA 5 1 v bs.length (u8s bs)::R):=by
 cases A with
 | none=>obtain⟨rfl,rfl⟩:=hn rfl;exact clone_none h
 | some ad=>exact clone_some h hs hl
def RawPost (br:Nat) (t:List UInt8×List UInt8×Int) (i:Nat) (F0:List Nat) (w0:World) (R:List Asrt) (e:Ending) (w':World):Prop:=
 ∃ v,e=.returned v∧In F0 w0 w' (RowA 5 1 v t.1.length (u8s t.1)::R.set i (RdA br t.2.1 t.2.2))
theorem o_rraw (h:In F0 w0 w R) (i:Nat) (hA:R[i]?=some (RdA br l e)) (n:Nat) (hn:n≤100000000) :
  Calls Tryz.prog 159 #[.pointer (some ⟨br,0,none⟩),.int .i64 n] w (RawPost br (rdTake l e n) i F0 w0 R):=by
 have HC:=Lib.hid (o_rtake h i hA n hn)
 have hlt:=rdTake_len l e n
 clear h hA
 generalize rdTake l e n=t at *
 go_enter Tryz.func159,Tryz.ntmps159
 go_wp2_with fail
 refine HC.out.mono ?_
 rintro e' w1 ⟨A,c,rfl,hn,hs,ho⟩
 have H2:=Lib.hid (o_clone (c:=c) ho hn hs (by omega))
 clear ho hn hs HC
 go_wp2_with fail
 refine H2.out.mono ?_
 rintro e' w2 ⟨v,rfl,ho⟩
 have HF:Hid (RawPost br t i F0 w0 R (.returned v) w2):=Lib.hid ⟨v,rfl,ho⟩
 clear ho H2
 go_wp2_with fail
 go_ret
 exact HF.out
theorem o_rleft (h:In F0 w0 w R) (i:Nat) (hA:R[i]?=some (RdA br l e)):Calls Tryz.prog 199 #[.pointer (some ⟨br,0,none⟩)] w fun e w'=>e=.returned (.int .i64 l.length)∧w'=w:=by
 obtain⟨F,v,hb,hv⟩:=h.get i hA
 have c0:w.cell? ⟨br,0,none⟩=some v:=cell_of hb rfl
 have hlen:∃ a cap,v=.slice a l.length cap:=by
  rcases hv with ⟨rfl,rfl,_⟩|⟨g,o,cap,rfl,_⟩
  ·exact⟨none,0,rfl⟩
  ·exact⟨_,_,rfl⟩
 obtain⟨a,cap,rfl⟩:=hlen
 clear h hA hb hv
 go_enter Tryz.func199,Tryz.ntmps199
 go_wp2_with fail
 go_ret
 exact⟨rfl,rfl⟩
def endE (l:List UInt8) (e:Int):Int:=if e=0 then (if l=[] then 0 else 3) else e
theorem o_rend (h:In F0 w0 w R) (i:Nat) (hA:R[i]?=some (RdA br l e)) (hl:l.length≤100000000):Calls Tryz.prog 140 #[.pointer (some ⟨br,0,none⟩)] w fun e' w'=>e'=.returned (.int .i64 (endE l e))∧w'=w:=by
 obtain⟨F,v,hb,hv⟩:=h.get i hA
 have c0:w.cell? ⟨br,0,none⟩=some v:=cell_of hb rfl
 have c1:w.cell? ⟨br,1,none⟩=some (.int .i64 e):=cell_of hb rfl
 have hlen:∃ a cap,v=.slice a l.length cap:=by
  rcases hv with ⟨rfl,rfl,_⟩|⟨g,o,cap,rfl,_⟩
  ·exact⟨none,0,rfl⟩
  ·exact⟨_,_,rfl⟩
 obtain⟨a,cap,rfl⟩:=hlen
 clear h hA hb hv
 by_cases he:e=0
 ·subst he
  by_cases hn:l=[]
  ·have HE:Hid (endE l 0=0):=Lib.hid (by simp [endE,hn])
   have h0:decide (0 < l.length)=false:=by simp [hn]
   clear hn
   generalize l.length=n at *
   go_enter Tryz.func140,Tryz.ntmps140
   go_wp2_with fail
   go_ret
   exact⟨by rw [HE.out];rfl,rfl⟩
  ·have HE:Hid (endE l 0=3):=Lib.hid (by simp [endE,hn])
   have h0:decide (0 < l.length)=true:=by simpa using List.length_pos_iff.2 hn
   clear hn
   generalize l.length=n at *
   go_enter Tryz.func140,Tryz.ntmps140
   go_wp2_with fail
   go_ret
   exact⟨by rw [HE.out];rfl,rfl⟩
 ·have HE:Hid (endE l e=e):=Lib.hid (by simp [endE,he])
  have q:(e == 0)=false:=beq_eq_false_iff_ne.2 he
  clear he
  go_enter Tryz.func140,Tryz.ntmps140
  go_wp2_with fail
  go_ret
  exact⟨by rw [HE.out];rfl,rfl⟩
theorem rd_of_row {g:Nat} {v:Value} {bs:List UInt8} (h:In F0 w0 w (Cells g #[v,.int .i64 0] 219::RowA 5 1 v bs.length (u8s bs)::R)):In F0 w0 w (RdA g bs 0::R):=by
 have h1:=In.join (A1:=[Cells g #[v,.int .i64 0] 219,RowA 5 1 v bs.length (u8s bs)]) (R:=R) h
 refine h1.imp (A':=RdA g bs 0) 0 rfl (RdA.framed _ _ _) fun F hF=>?_
 obtain⟨F1,F2,⟨rfl,h2⟩,⟨F3,F4,h3,rfl,_,rfl⟩,h4,rfl⟩:=hF
 obtain⟨a,cap,rfl,k1,k2,k3⟩:=h3.shape
 refine⟨_,h2,?_⟩
 obtain⟨h5,h6⟩:=h3
 rcases h6.2 with h7 | ⟨g',c,cur,e,_,hb,_⟩
 ·left
  refine⟨h7.1,List.length_eq_zero_iff.1 h7.2,?_⟩
  rw [h5,h7.1];simp [Value.ownBlock]
 ·right
  cases e
  refine⟨g',0,cap,rfl,k1,k2,?_,?_,hp_lt hb,fun j u hu=>?_⟩
  ·rintro rfl
   exact h4 g' (by simp) (by rw [h5];simp [Value.ownBlock])
  ·rw [h5];simp [Value.ownBlock]
  ·obtain⟨b,e,hc⟩:=k3 j u hu
   cases e
   rw [Nat.zero_add];exact hc
theorem o_rnew (h:In F0 w0 w R) {A:Option Addr} {c:Nat} {bs:List UInt8} (hn:A=none→c=0∧bs=[]) (hs:Src w A bs.length 1 (u8s bs)) (hl:bs.length≤100000000) :
  Calls Tryz.prog 137 #[.slice A bs.length c] w fun e w'=>∃ br,e=.returned (.pointer (some ⟨br,0,none⟩))∧In F0 w0 w' (RdA br bs 0::R):=by
 have HC:=Lib.hid (o_clone (c:=c) h hn hs hl)
 clear h hn hs
 go_enter Tryz.func137,Tryz.ntmps137
 go_wp2_with fail
 refine HC.out.mono ?_
 rintro e' w1 ⟨v,rfl,ho⟩
 obtain⟨F,hr⟩:=ho.get 0 rfl
 obtain⟨a,cap,rfl,-,-,-⟩:=hr.shape
 have h2:=rd_of_row (ho.cells #[.slice a bs.length cap,.int .i64 0] 219)
 have H2:=Lib.hid h2
 clear ho h2 hr HC
 go_wp2_with fail
 go_ret
 exact⟨_,rfl,H2.out⟩
theorem bclone_some (h:In F0 w0 w R) {ad:Addr} {n c:Nat} {l:List UInt8} (hs:Src w (some ad) n 1 (u8s l)) (hn:n≤100000000) :
  Calls Tryz.prog 161 #[.slice (some ad) n c] w fun e w'=>∃ v,e=.returned v∧In F0 w0 w' (RowA 5 1 v n (u8s l)::R):=by
 have HH:=Lib.hid h
 have HS:=Lib.hid hs
 clear h hs
 have hq:∀ (w:World) (a:Option Addr) (n c n' c':Nat),(binOp .eql 41 (.slice a n c) (.slice none n' c')).run Tryz.prog w=.ok (.bool a.isNone) w:=fun w a n c n' c'=>Lib.run_eql_slice_nil w _ _ a n c n' c' Tryz.underlying41
 go_enter Tryz.func161,Tryz.ntmps161
 go_wp2_with (at_builtin;refine app_list rfl ((HH.out.cells #[] 5).row0 (k:=1) 0 rfl) 0 rfl (.tmp 5) (.tmp 6) 41 (by rfl) Tryz.underlying41 infoByte (by decide) (by decide) (by rfl) (by rfl) (src_alloc HS.out _) (u8s_one _) (by omega) ?_)
 intro v' w3 ho hg
 have HO:=Lib.hid ho
 clear ho hg
 go_wp2_with fail
 go_ret
 exact⟨_,rfl,HO.out⟩
end
end
structure Bk where
 id:Int
 addr:Int
 weight:Int
deriving DecidableEq,Inhabited
structure Rec where
 kind:Int
 fl:Fl
 gen:Int
 bks:List Bk
 bk:Int
 till:Int
 count:Int
deriving DecidableEq,Inhabited
def zeroT:Tup:=⟨0,0,0,0,0⟩
def zeroF:Fl:=⟨zeroT,0,0,0⟩
def zeroRec:Rec:=⟨0,zeroF,0,[],0,0,0⟩
def mayBk (b:Bk):Bool:=decide (0≤b.id∧b.id≤65535) && decide (1≤b.weight∧b.weight≤10)
def mayRec (r:Rec):Bool:=
 if r.kind=1 then decide (MayF r.fl)
 else if r.kind=2 then decide (MayT r.fl.t)
 else if r.kind=3 then decide (0≤r.gen∧r.gen≤1000000) && (decide (r.bks.length≤16) && r.bks.all mayBk)
 else if r.kind=4 then decide (0≤r.bk∧r.bk≤65535) && decide (0≤r.till∧r.till≤1099511627776)
 else if r.kind=5 then decide (0≤r.bk∧r.bk≤65535)
 else if r.kind=6 then decide (0≤r.count∧r.count≤1000000)
 else false
def plainRec (r:Rec):Rec:=
 if r.kind=1 then ⟨1,r.fl,0,[],0,0,0⟩
 else if r.kind=2 then ⟨2,⟨r.fl.t,0,0,0⟩,0,[],0,0,0⟩
 else if r.kind=3 then ⟨3,zeroF,r.gen,r.bks,0,0,0⟩
 else if r.kind=4 then ⟨4,zeroF,0,[],r.bk,r.till,0⟩
 else if r.kind=5 then ⟨5,zeroF,0,[],r.bk,0,0⟩
 else if r.kind=6 then ⟨6,zeroF,0,[],0,0,r.count⟩
 else ⟨r.kind,zeroF,0,[],0,0,0⟩
def verOk (v:Int):Bool:=decide (1≤v∧v≤3)
def inFl (v:Int) (f:Fl):Fl:=⟨f.t,f.bk,if v < 2 then 0 else f.gen,if v < 3 then 0 else f.seen⟩
def inBk (v:Int) (b:Bk):Bk:=if v < 2 then ⟨b.id,b.addr,1⟩ else b
def inRec (r:Rec) (v:Int):Rec:=
 if verOk v=false then zeroRec else
 ⟨(plainRec r).kind,if r.kind=1 then inFl v (plainRec r).fl else (plainRec r).fl,(plainRec r).gen,(plainRec r).bks.map (inBk v),(plainRec r).bk,(plainRec r).till,(plainRec r).count⟩
def bkB (v:Int) (b:Bk):List UInt8:=be (u64 b.id) 2++be (u64 b.addr) 4++(if 2≤v then be (u64 b.weight) 1 else [])
def bksB (v:Int) (l:List Bk):List UInt8:=(l.map (bkB v)).flatten
def recBody (r:Rec) (v:Int):List UInt8:=
 if r.kind=1 then keyL r.fl.t++be (u64 r.fl.bk) 2++(if 2≤v then be (u64 r.fl.gen) 4 else [])++(if 3≤v then be (u64 r.fl.seen) 8 else [])
 else if r.kind=2 then keyL r.fl.t
 else if r.kind=3 then be (u64 r.gen) 4++be (u64 r.bks.length) 1++bksB v r.bks
 else if r.kind=4 then be (u64 r.bk) 2++be (u64 r.till) 8
 else if r.kind=5 then be (u64 r.bk) 2
 else if r.kind=6 then be (u64 r.count) 4
 else []
def encRec (r:Rec) (v:Int):FrD×Int:=
 if verOk v=false then (zeroFr,10) else if mayRec r=false then (zeroFr,1) else (⟨r.kind.toNat,v.toNat,recBody r v⟩,0)
/-! ### What bytes say -/
abbrev RdS:=List UInt8×Int
def rdN (n:Nat) (s:RdS):Nat:=num (rdTake s.1 s.2 n).1
def rdS (n:Nat) (s:RdS):RdS:=(rdTake s.1 s.2 n).2
def tupAt (s:RdS):Tup:=⟨rdN 4 s,rdN 4 (rdS 4 s),rdN 1 (rdS 4 (rdS 4 s)),rdN 2 (rdS 1 (rdS 4 (rdS 4 s))),rdN 2 (rdS 2 (rdS 1 (rdS 4 (rdS 4 s))))⟩
def rdTup (s:RdS):Tup×Bool×RdS:=
 if s.1.length < 13 then (zeroT,false,rdS 13 s)
 else if MayT (tupAt s) then (tupAt s,true,rdS 2 (rdS 2 (rdS 1 (rdS 4 (rdS 4 s)))))
 else (zeroT,false,rdS 2 (rdS 2 (rdS 1 (rdS 4 (rdS 4 s)))))
def rdFl (v:Int) (s:RdS):Fl×Bool×RdS:=
 let t:=rdTup s
 let s1:=rdS 2 t.2.2
 let s2:=if 2≤v then rdS 4 s1 else s1
 let s3:=if 3≤v then rdS 8 s2 else s2
 (⟨t.1,rdN 2 t.2.2,if 2≤v then (rdN 4 s1:Int) else 0,if 3≤v then sig64 (rdN 8 s2) else 0⟩,t.2.1,s3)
def rdBk (v:Int) (s:RdS):Bk×RdS:=
 (⟨rdN 2 s,rdN 4 (rdS 2 s),if 2≤v then (rdN 1 (rdS 4 (rdS 2 s)):Int) else 1⟩,if 2≤v then rdS 1 (rdS 4 (rdS 2 s)) else rdS 4 (rdS 2 s))
def rdBks (v:Int):Nat→RdS→List Bk×RdS
 | 0,s=>([],s)
 | n+1,s=>((rdBks v n s).1++[(rdBk v (rdBks v n s).2).1],(rdBk v (rdBks v n s).2).2)
def rdRec (kind v:Int) (s:RdS):Rec×Bool×RdS:=
 if kind=1 then (⟨1,(rdFl v s).1,0,[],0,0,0⟩,(rdFl v s).2.1,(rdFl v s).2.2)
 else if kind=2 then (⟨2,⟨(rdTup s).1,0,0,0⟩,0,[],0,0,0⟩,(rdTup s).2.1,(rdTup s).2.2)
 else if kind=3 then
  let b:=rdBks v (min (rdN 1 (rdS 4 s)) 17) (rdS 1 (rdS 4 s))
  (⟨3,zeroF,rdN 4 s,b.1,0,0,0⟩,true,b.2)
 else if kind=4 then (⟨4,zeroF,0,[],rdN 2 s,sig64 (rdN 8 (rdS 2 s)),0⟩,true,rdS 8 (rdS 2 s))
 else if kind=5 then (⟨5,zeroF,0,[],rdN 2 s,0,0⟩,true,rdS 2 s)
 else if kind=6 then (⟨6,zeroF,0,[],0,0,rdN 4 s⟩,true,rdS 4 s)
 else (⟨kind,zeroF,0,[],0,0,0⟩,true,s)
def decRec (f:FrD):Rec×Int:=
 if verOk f.ver=false then (zeroRec,10)
 else
  let r:=rdRec f.kind f.ver (f.body,0)
  if r.2.1=true∧endE r.2.2.1 r.2.2.2=0∧mayRec r.1=true then (r.1,0) else (zeroRec,3)
/-! ### Its numbers fit their types -/
structure WfBk (b:Bk):Prop where
 i0:-9223372036854775808≤b.id
 i1:b.id < 9223372036854775808
 a0:0≤b.addr
 a1:b.addr < 4294967296
 w0:-9223372036854775808≤b.weight
 w1:b.weight < 9223372036854775808
structure WfR (r:Rec):Prop where
 t:WfT r.fl.t
 addr:∀ b∈r.bks,0≤b.addr∧b.addr < 4294967296
/-! ### Laws -/
theorem rd_app {n:Nat} (a b:List UInt8) (h:a.length=n):rdTake (a++b) 0 n=(a,b,0):=by
 unfold rdTake
 rw [if_neg (by simp),if_neg (by rw [List.length_append];omega),← h]
 simp
theorem rdN_be {n w:Nat} (h:n < 256 ^ w) (b:List UInt8):rdN w (be n w++b,0)=n:=by
 unfold rdN;rw [rd_app _ _ (be_length n w)];exact num_be h
theorem rdS_be (n w:Nat) (b:List UInt8):rdS w (be n w++b,0)=(b,0):=by
 unfold rdS;rw [rd_app _ _ (be_length n w)]
theorem u64_lt_of {n:Int} {k:Nat} (h0:0≤n) (h1:n < k) (hk:k≤18446744073709551616):u64 n < k:=(u64_small h0 h1 hk).1
theorem u64_cast {n:Int} (h0:0≤n) (h1:n < 18446744073709551616):((u64 n:Nat):Int)=n:=u64_nat h0 h1
theorem rdN_u64 {n:Int} {w:Nat} (h0:0≤n) (h1:n < (256 ^ w:Nat)) (hw:(256 ^ w:Nat)≤18446744073709551616) (b:List UInt8):((rdN w (be (u64 n) w++b,0):Nat):Int)=n:=by
 rw [rdN_be (u64_lt_of h0 h1 hw)];exact u64_cast h0 (by omega)
theorem rdS_u64 (n:Int) (w:Nat) (b:List UInt8):rdS w (be (u64 n) w++b,0)=(b,0):=rdS_be _ _ _
theorem rdTup_key {t:Tup} (wt:WfT t) (mt:MayT t) (b:List UInt8):rdTup (keyL t++b,0)=(t,true,(b,0)):=by
 have e:keyL t++b=be (u64 t.src) 4++(be (u64 t.dst) 4++(be (u64 t.proto) 1++(be (u64 t.sport) 2++(be (u64 t.dport) 2++b)))):=by simp [keyL,List.append_assoc]
 have hl:¬ (keyL t++b).length < 13:=by rw [List.length_append,keyL_length];omega
 have hp:0≤t.proto∧t.proto < 256:=by rcases mt.proto with h | h <;> rw [h] <;> decide
 have k1:=mt.sp0;have k2:=mt.sp1;have k3:=mt.dp0;have k4:=mt.dp1
 have ht:tupAt (keyL t++b,0)=t:=by
  unfold tupAt
  rw [e]
  simp only [rdS_u64]
  rw [rdN_u64 wt.s0 (by have:=wt.s1;simpa using this) (by decide),rdN_u64 wt.d0 (by have:=wt.d1;simpa using this) (by decide),rdN_u64 hp.1 (by simpa using hp.2) (by decide),rdN_u64 k1 (by simp;omega) (by decide),rdN_u64 k3 (by simp;omega) (by decide)]
 unfold rdTup
 rw [if_neg hl,ht,if_pos mt,e]
 simp only [rdS_u64]
theorem rdBk_B {v:Int} {b:Bk} (hb:mayBk b=true) (ha:0≤b.addr∧b.addr < 4294967296) (r:List UInt8):rdBk v (bkB v b++r,0)=(inBk v b,(r,0)):=by
 simp only [mayBk,Bool.and_eq_true,decide_eq_true_eq] at hb
 obtain⟨⟨b1,b2⟩,b3,b4⟩:=hb
 unfold rdBk bkB inBk
 by_cases hv:2≤v
 ·simp only [if_pos hv,List.append_assoc,rdS_u64]
  rw [rdN_u64 b1 (by simp;omega) (by decide),rdN_u64 ha.1 (by simpa using ha.2) (by decide),rdN_u64 (by omega) (by simp;omega) (by decide),if_neg (by omega)]
 ·simp only [if_neg hv,List.append_assoc,List.nil_append,rdS_u64]
  rw [rdN_u64 b1 (by simp;omega) (by decide),rdN_u64 ha.1 (by simpa using ha.2) (by decide),if_pos (by omega)]
theorem bksB_snoc (v:Int) (l:List Bk) (b:Bk):bksB v (l++[b])=bksB v l++bkB v b:=by simp [bksB]
theorem rdBks_take {v:Int} {l:List Bk} (hl:∀ b∈l,mayBk b=true∧0≤b.addr∧b.addr < 4294967296) (r:List UInt8) :
  ∀ k,k≤l.length→rdBks v k (bksB v l++r,0)=((l.take k).map (inBk v),(bksB v (l.drop k)++r,0))
 | 0,_=>by simp [rdBks]
 | k+1,h=>by
  obtain⟨x,hx⟩:∃ x,l[k]?=some x:=⟨l[k],List.getElem?_eq_getElem h⟩
  have hd:l.drop k=x::l.drop (k+1):=by
   have hx':l[k]=x:=by
    have:=List.getElem?_eq_getElem (l:=l) (i:=k) h
    rw [this] at hx;exact Option.some.inj hx
   rw [List.drop_eq_getElem_cons h,hx']
  have hm:=hl x (List.mem_of_getElem? hx)
  unfold rdBks
  rw [rdBks_take hl r k (by omega),hd]
  have e:bksB v (x::l.drop (k+1))++r=bkB v x++(bksB v (l.drop (k+1))++r):=by simp [bksB,List.append_assoc]
  simp only [e,rdBk_B hm.1 hm.2]
  rw [List.take_add_one,hx];simp
theorem rdBks_all {v:Int} {l:List Bk} (hl:∀ b∈l,mayBk b=true∧0≤b.addr∧b.addr < 4294967296):rdBks v l.length (bksB v l,0)=(l.map (inBk v),([],0)):=by
 have:=rdBks_take (v:=v) hl [] l.length (Nat.le_refl _)
 simpa [bksB] using this
theorem inBk_may {v:Int} {b:Bk} (h:mayBk b=true):mayBk (inBk v b)=true:=by
 unfold inBk;split
 ·simp only [mayBk,Bool.and_eq_true,decide_eq_true_eq] at h ⊢;omega
 ·exact h
theorem inFl_may {v:Int} {f:Fl} (h:MayF f):MayF (inFl v f):=by
 obtain⟨h1,h2,h3,h4,h5,h6,h7⟩:=h
 refine⟨h1,h2,h3,?_,?_,?_,?_⟩ <;> (simp only [inFl];split <;> omega)
theorem mayRec_iff {r:Rec}:mayRec r=true↔(r.kind=1∧MayF r.fl)∨(r.kind=2∧MayT r.fl.t)∨(r.kind=3∧(0≤r.gen∧r.gen≤1000000)∧r.bks.length≤16∧∀ b∈r.bks,mayBk b=true) ∨
  (r.kind=4∧(0≤r.bk∧r.bk≤65535)∧0≤r.till∧r.till≤1099511627776)∨(r.kind=5∧0≤r.bk∧r.bk≤65535)∨(r.kind=6∧0≤r.count∧r.count≤1000000):=by
 unfold mayRec
 split
 ·rename_i h;simp [h]
 split
 ·rename_i h;simp [h]
 split
 ·rename_i h;simp [h,List.all_eq_true]
 split
 ·rename_i h;simp [h]
 split
 ·rename_i h;simp [h]
 split
 ·rename_i h;simp [h]
 ·simp;omega
theorem inRec_kind {r:Rec} {v:Int} (hv:verOk v=true):(inRec r v).kind=r.kind:=by
 unfold inRec;rw [if_neg (by simp [hv])]
 unfold plainRec
 repeat' split
 all_goals simp_all
theorem plain_kind (r:Rec):(plainRec r).kind=r.kind:=by
 unfold plainRec
 repeat' split
 all_goals simp_all
theorem inRec_may {r:Rec} {v:Int} (hv:verOk v=true) (h:mayRec r=true):mayRec (inRec r v)=true:=by
 rw [mayRec_iff] at h ⊢
 have hk:=inRec_kind (r:=r) hv
 rw [hk]
 have e:inRec r v=_:=if_neg (by simp [hv])
 rcases h with ⟨h1,h2⟩|⟨h1,h2⟩|⟨h1,h2,h3,h4⟩|⟨h1,h2,h3⟩|⟨h1,h2⟩|⟨h1,h2⟩
 ·left;refine⟨h1,?_⟩;rw [e];simp only [if_pos h1,plainRec];exact inFl_may h2
 ·right;left;refine⟨h1,?_⟩;rw [e];simp [h1,plainRec];exact h2
 ·right;right;left;refine⟨h1,?_⟩;rw [e];simp [h1,plainRec];exact⟨h2,h3,fun b hb=>inBk_may (h4 b hb)⟩
 ·right;right;right;left;refine⟨h1,?_⟩;rw [e];simp [h1,plainRec];exact⟨h2,h3⟩
 ·right;right;right;right;left;refine⟨h1,?_⟩;rw [e];simp [h1,plainRec];exact h2
 ·right;right;right;right;right;refine⟨h1,?_⟩;rw [e];simp [h1,plainRec];exact h2
theorem endE_nil:endE [] 0=0:=rfl
theorem dec_enc {r:Rec} {v:Int} (wr:WfR r) (hv:verOk v=true) (h:mayRec r=true):(encRec r v).2=0∧decRec (encRec r v).1=(inRec r v,0):=by
 have hv':1≤v∧v≤3:=by simpa [verOk] using hv
 have e0:encRec r v=(⟨r.kind.toNat,v.toNat,recBody r v⟩,0):=by unfold encRec;rw [if_neg (by simp [hv]),if_neg (by simp [h])]
 have evn:((v.toNat:Nat):Int)=v:=Int.toNat_of_nonneg (by omega)
 have him:=inRec_may hv h
 have ei:inRec r v=⟨(plainRec r).kind,if r.kind=1 then inFl v (plainRec r).fl else (plainRec r).fl,(plainRec r).gen,(plainRec r).bks.map (inBk v),(plainRec r).bk,(plainRec r).till,(plainRec r).count⟩:=if_neg (by simp [hv])
 refine⟨by rw [e0],?_⟩
 suffices hs:∀ k:Int,r.kind=k→rdRec k v (recBody r v,0)=(inRec r v,true,([],0)) by
  have hk:((r.kind.toNat:Nat):Int)=r.kind:=by
   rw [mayRec_iff] at h;apply Int.toNat_of_nonneg;omega
  rw [e0]
  unfold decRec
  simp only [evn,hk]
  rw [if_neg (by simp [hv])]
  rw [hs _ rfl]
  rw [if_pos ⟨rfl,endE_nil,him⟩]
 intro k hk
 have hm:=h
 rw [mayRec_iff] at hm
 rcases hm with ⟨h1,h2⟩|⟨h1,h2⟩|⟨h1,h2,h3,h4⟩|⟨h1,h2,h3⟩|⟨h1,h2⟩|⟨h1,h2⟩
 ·obtain rfl:k=1:=by omega
  have eb:recBody r v=keyL r.fl.t++(be (u64 r.fl.bk) 2++((if 2≤v then be (u64 r.fl.gen) 4 else [])++(if 3≤v then be (u64 r.fl.seen) 8 else []))):=by
   unfold recBody;rw [if_pos h1];simp [List.append_assoc]
  have b0:=h2.b0;have b1:=h2.b1;have g0:=h2.g0;have g1:=h2.g1;have t0:=h2.t0;have t1:=h2.t1
  have hs8:∀ x:Int,0≤x→x≤1099511627776→sig64 (rdN 8 (be (u64 x) 8,0))=x:=fun x x0 x1=>by
   have:=rdN_u64 (n:=x) (w:=8) x0 (by rw [show (256 ^ 8:Nat)=18446744073709551616 from by decide];omega) (by decide) []
   rw [List.append_nil] at this
   unfold sig64;rw [this];unfold wrap64;omega
  have hr8:∀ x:Int,rdS 8 (be (u64 x) 8,0)=([],0):=fun x=>by
   have:=rdS_u64 x 8 []
   rwa [List.append_nil] at this
  have hr4:∀ x:Int,rdS 4 (be (u64 x) 4,0)=([],0):=fun x=>by
   have:=rdS_u64 x 4 []
   rwa [List.append_nil] at this
  have hn4:∀ x:Int,0≤x→x≤1000000→((rdN 4 (be (u64 x) 4,0):Nat):Int)=x:=fun x x0 x1=>by
   have:=rdN_u64 (n:=x) (w:=4) x0 (by simp;omega) (by decide) []
   rwa [List.append_nil] at this
  have hr:rdFl v (recBody r v,0)=(inFl v r.fl,true,([],0)):=by
   unfold rdFl inFl
   rw [eb,rdTup_key wr.t h2.t]
   simp only [rdS_u64]
   rw [rdN_u64 b0 (by simp;omega) (by decide)]
   by_cases c2:2≤v
   ·by_cases c3:3≤v
    ·simp only [if_pos c2,if_pos c3,rdS_u64,hr8,hs8 _ t0 t1]
     rw [rdN_u64 g0 (by simp;omega) (by decide),if_neg (by omega),if_neg (by omega)]
    ·simp only [if_pos c2,if_neg c3,List.append_nil,hr4,hn4 _ g0 g1]
     rw [if_neg (by omega),if_pos (by omega)]
   ·have c3:¬ 3≤v:=by omega
    simp only [if_neg c2,if_neg c3,List.append_nil]
    rw [if_pos (by omega),if_pos (by omega)]
  unfold rdRec
  rw [if_pos rfl,hr,ei]
  simp [plainRec,h1]
 ·obtain rfl:k=2:=by omega
  have eb:recBody r v=keyL r.fl.t:=by unfold recBody;rw [if_neg (by omega),if_pos h1]
  have hr:rdTup (recBody r v,0)=(r.fl.t,true,([],0)):=by
   rw [eb];have:=rdTup_key wr.t h2 [];rwa [List.append_nil] at this
  unfold rdRec
  rw [if_neg (by decide),if_pos rfl,hr,ei]
  simp [plainRec,h1]
 ·obtain rfl:k=3:=by omega
  have eb:recBody r v=be (u64 r.gen) 4++(be (u64 r.bks.length) 1++bksB v r.bks):=by
   unfold recBody;rw [if_neg (by omega),if_neg (by omega),if_pos h1];simp [List.append_assoc]
  have hn:rdN 1 (be (u64 r.bks.length) 1++bksB v r.bks,0)=r.bks.length:=by
   have:=rdN_u64 (n:=r.bks.length) (w:=1) (by omega) (by simp;omega) (by decide) (bksB v r.bks)
   omega
  unfold rdRec
  rw [if_neg (by decide),if_neg (by decide),if_pos rfl,eb]
  simp only [rdS_u64,hn]
  rw [rdN_u64 h2.1 (by simp;omega) (by decide),Nat.min_eq_left (by omega),rdBks_all (fun b hb=>⟨h4 b hb,wr.addr b hb⟩),ei]
  simp [plainRec,h1]
 ·obtain rfl:k=4:=by omega
  have eb:recBody r v=be (u64 r.bk) 2++(be (u64 r.till) 8++[]):=by
   unfold recBody;rw [if_neg (by omega),if_neg (by omega),if_neg (by omega),if_pos h1];simp
  have hs8:sig64 (rdN 8 (be (u64 r.till) 8++[],0))=r.till:=by
   have:=rdN_u64 (n:=r.till) (w:=8) h3.1 (by rw [show (256 ^ 8:Nat)=18446744073709551616 from by decide];omega) (by decide) []
   unfold sig64;rw [this];unfold wrap64;omega
  unfold rdRec
  rw [if_neg (by decide),if_neg (by decide),if_neg (by decide),if_pos rfl,eb]
  simp only [rdS_u64,hs8]
  rw [rdN_u64 h2.1 (by simp;omega) (by decide),ei]
  simp [plainRec,h1]
 ·obtain rfl:k=5:=by omega
  have eb:recBody r v=be (u64 r.bk) 2++[]:=by
   unfold recBody;rw [if_neg (by omega),if_neg (by omega),if_neg (by omega),if_neg (by omega),if_pos h1];simp
  unfold rdRec
  rw [if_neg (by decide),if_neg (by decide),if_neg (by decide),if_neg (by decide),if_pos rfl,eb]
  simp only [rdS_u64]
  rw [rdN_u64 h2.1 (by simp;omega) (by decide),ei]
  simp [plainRec,h1]
 ·obtain rfl:k=6:=by omega
  have eb:recBody r v=be (u64 r.count) 4++[]:=by
   unfold recBody;rw [if_neg (by omega),if_neg (by omega),if_neg (by omega),if_neg (by omega),if_neg (by omega),if_pos h1];simp
  unfold rdRec
  rw [if_neg (by decide),if_neg (by decide),if_neg (by decide),if_neg (by decide),if_neg (by decide),if_pos rfl,eb]
  simp only [rdS_u64]
  rw [rdN_u64 h2.1 (by simp;omega) (by decide),ei]
  simp [plainRec,h1]
theorem bksB_length (v:Int):∀ l:List Bk,(bksB v l).length≤7 * l.length
 | []=>Nat.le_refl _
 | b::l=>by
  have:=bksB_length v l
  have e:bksB v (b::l)=bkB v b++bksB v l:=by simp [bksB]
  rw [e,List.length_append,List.length_cons]
  have hb:(bkB v b).length≤7:=by
   unfold bkB
   rw [List.length_append,List.length_append,be_length,be_length]
   split
   ·rw [be_length];omega
   ·simp
  omega
theorem recBody_length {r:Rec} (v:Int) (h:mayRec r=true):(recBody r v).length≤200:=by
 rw [mayRec_iff] at h
 unfold recBody
 split
 ·simp only [List.length_append,keyL_length,be_length];split <;> split <;> simp [be_length]
 split
 ·rw [keyL_length];omega
 split
 ·have:=bksB_length v r.bks
  simp only [List.length_append,be_length]
  have:r.bks.length≤16:=by omega
  omega
 split
 ·simp [be_length]
 split
 ·simp [be_length]
 split
 ·simp [be_length]
 ·simp
theorem enc_ok {r:Rec} {v:Int} (h:(encRec r v).2=0):FrOk (encRec r v).1∧(encRec r v).1.ver=v.toNat∧verOk v=true∧mayRec r=true:=by
 unfold encRec at h ⊢
 cases hv:verOk v with
 | false=>rw [hv] at h;simp at h
 | true=>
  cases hm:mayRec r with
  | false=>rw [hv,hm] at h;simp at h
  | true=>
   simp only [Bool.true_eq_false,if_false,and_true]
   have hv':1≤v∧v≤3:=by simpa [verOk] using hv
   have hl:=recBody_length v hm
   rw [mayRec_iff] at hm
   exact⟨by show r.kind.toNat < 256;omega,by show v.toNat < 256;omega,by show (recBody r v).length≤4096;omega⟩
theorem exists_list {α:Type} {p:Nat→α→Prop}:∀ (n:Nat),(∀ i,i < n→∃ x,p i x)→∃ l:List α,l.length=n∧∀ i (hi:i < l.length),p i l[i]
 | 0,_=>⟨[],rfl,fun i hi=>by simp at hi⟩
 | n+1,h=>by
  obtain⟨l,hl,hp⟩:=exists_list n (fun i hi=>h i (by omega))
  obtain⟨x,hx⟩:=h n (by omega)
  refine⟨l++[x],by simp [hl],fun i hi=>?_⟩
  by_cases hin:i < l.length
  ·rw [List.getElem_append_left hin];exact hp i hin
  ·have:i=l.length:=by simp at hi;omega
   subst this
   simpa [hl] using hx
structure ArgStrs (w:World) (a:Option Addr) (len cap:Nat) (ss:List ByteArray):Prop where
 length:ss.length=len
 room:len≤cap
 most:cap≤maxLen
 small:∀ s∈ss,s.size≤maxLen
 at':len=0∨∃ b o,a=some ⟨b,o,none⟩∧b < w.heap.size∧∀ i (hi:i < ss.length),w.cell? ⟨b,o+i,none⟩=some (.string ss[i])
structure ArgInts (k:IntKind) (w:World) (a:Option Addr) (len cap:Nat) (zs:List Int):Prop where
 length:zs.length=len
 room:len≤cap
 most:cap≤maxLen
 small:∀ n∈zs,(Lit.int k n).wf=true
 at':len=0∨∃ b o,a=some ⟨b,o,none⟩∧b < w.heap.size∧∀ i (hi:i < zs.length),w.cell? ⟨b,o+i,none⟩=some (.int k zs[i])
section
variable {H:Type} {enc:TypeId×Value→H} {P:Program} {w:World} {base:Nat} {spare:Nat→Bool} {held:Bool}
theorem addr_none {a:Addr} {v:Value} (h:w.cell? (a.add 0)=some v):a=⟨a.block,a.off,none⟩:=by
 have:a.add 0=a:=by simp [Addr.add]
 rw [this] at h
 have:=World.cell?_spot h
 cases a;simp at this;simp [this]
theorem add_plain (b o i:Nat):(⟨b,o,none⟩:Addr).add i=⟨b,o+i,none⟩:=by
 unfold Addr.add;split
 ·simp
 ·rfl
end
end Go.Proofs.YtpmmiljakbojaaaGreat
