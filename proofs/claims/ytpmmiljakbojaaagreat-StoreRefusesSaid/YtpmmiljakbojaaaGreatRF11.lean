/- Rows.StoreRefusesSaid -/
import Derived.Test.YtpmmiljakbojaaaGreatRF9
import Derived.Test.YtpmmiljakbojaaaGreatRF8
import Derived.Test.YtpmmiljakbojaaaGreatRF10
namespace Go.Proofs.YtpmmiljakbojaaaGreat
open Go.RowKit
set_option linter.unusedVariables false
set_option maxHeartbeats 64000000
set_option maxRecDepth 100000
theorem dig_inj {a b k:Nat} (h:dig a k=dig b k):a / 10 ^ k % 10=b / 10 ^ k % 10:=by
 have:=congrArg UInt8.toNat h
 simp only [dig,UInt8.toNat_ofNat'] at this
 have h1:=Nat.mod_lt (a / 10 ^ k) (show 10 > 0 by omega)
 have h2:=Nat.mod_lt (b / 10 ^ k) (show 10 > 0 by omega)
 omega
theorem segName_val {s:Nat} (h:1≤s∧s < 1000000):segName s=⟨#[115,dig s 5,dig s 4,dig s 3,dig s 2,dig s 1,dig s 0]⟩:=if_neg (by omega)
theorem segName_bad {s:Nat} (h:¬ (1≤s∧s < 1000000)):segName s=ByteArray.empty:=if_pos (by omega)
theorem segName_inj {a b:Nat} (ha:1≤a∧a < 1000000) (hb:1≤b∧b < 1000000) (h:segName a=segName b):a=b:=by
 rw [segName_val ha,segName_val hb] at h
 have h2:=congrArg (fun x=>x.data.toList) h
 simp only [List.cons.injEq] at h2
 obtain⟨-,h5,h4,h3,h2,h1,h0,-⟩:=h2
 have e5:=dig_inj h5
 have e4:=dig_inj h4
 have e3:=dig_inj h3
 have e2:=dig_inj h2
 have e1:=dig_inj h1
 have e0:=dig_inj h0
 simp only [Nat.reducePow] at e5 e4 e3 e2 e1 e0
 omega
theorem segName_size7 {s:Nat} (h:1≤s∧s < 1000000):(segName s).size=7:=by rw [segName_val h];rfl
theorem segName_len (s:Nat):(segName s).size=7∨(segName s).size=0:=by
 by_cases h:1≤s∧s < 1000000
 ·exact Or.inl (segName_size7 h)
 ·right;rw [segName_bad h];rfl
theorem segName_head (s:Nat):segName s≠nmHead:=fun e=>by
 have h1:nmHead.size=1:=rfl
 have:=segName_len s
 rw [e] at this;omega
theorem segName_fresh (s:Nat):segName s≠nmFresh:=fun e=>by
 have h1:nmFresh.size=5:=rfl
 have:=segName_len s
 rw [e] at this;omega
theorem head_fresh:nmHead≠nmFresh:=fun e=>by
 have h1:nmFresh.size=5:=rfl
 have h2:nmHead.size=1:=rfl
 rw [e] at h2;omega
theorem upB_pair {b:Nat}:∀ {l:List Nat} {was:Nat},upB b was l=true→l.Pairwise (· < ·)
 | [],_,_=>List.Pairwise.nil
 | s::r,was,h=>by
  simp only [upB,Bool.and_eq_true,decide_eq_true_eq] at h
  exact List.pairwise_cons.2 ⟨fun x hx=>(upB_mem h.2 x hx).1,upB_pair h.2⟩
theorem mayM_pair {m:ManD} (h:mayM m=true):m.segs.Pairwise (· < ·):=upB_pair (mayM_iff.1 h).2
theorem upB_of {b:Nat}:∀ {l:List Nat} {was:Nat},l.Pairwise (· < ·)→(∀ s∈l,was < s∧s < b)→upB b was l=true
 | [],_,_,_=>rfl
 | s::r,was,h,hb=>by
  obtain⟨h1,h2⟩:=List.pairwise_cons.1 h
  simp only [upB,Bool.and_eq_true,decide_eq_true_eq]
  exact⟨hb s (by simp),upB_of h2 (fun x hx=>⟨h1 x hx,(hb x (List.mem_cons_of_mem _ hx)).2⟩)⟩
def Mine (segs:List Nat) (n:ByteArray):Prop:=n=nmHead∨∃ s∈segs,n=segName s
theorem mine_fresh {segs:List Nat}:¬ Mine segs nmFresh:=by
 rintro (h | ⟨s,_,h⟩)
 ·exact head_fresh h.symm
 ·exact segName_fresh s h.symm
theorem mine_empty {segs:List Nat} (h:∀ s∈segs,1≤s∧s < 1000000):¬ Mine segs ByteArray.empty:=by
 rintro (e | ⟨s,hs,e⟩)
 ·have:nmHead.size=1:=rfl
  rw [← e] at this;exact absurd this (by decide)
 ·have:=segName_size7 (h s hs)
  rw [← e] at this;exact absurd this (by decide)
theorem mine_not {segs:List Nat} (h:∀ s∈segs,1≤s∧s < 1000000) {x:Nat} (hx:x ∉ segs):¬ Mine segs (segName x):=by
 by_cases hv:1≤x∧x < 1000000
 ·rintro (e | ⟨s,hs,e⟩)
  ·exact segName_head x e
  ·exact hx (by rw [segName_inj hv (h s hs) e];exact hs)
 ·rw [segName_bad hv];exact mine_empty h
def FileAt (N:NmL) (fs:List FileD) (n:ByteArray) (b:List UInt8) (s:Nat):Prop:=∃ i,nmAt N n=some i∧(fs.getD i default).b=b∧s≤(fs.getD i default).sure
theorem FileAt.congr {N N':NmL} {fs fs':List FileD} {n:ByteArray} {b:List UInt8} {s:Nat} (h:FileAt N fs n b s) (hN:nmAt N' n=nmAt N n) (hf:∀ i,nmAt N n=some i→fs'.getD i default=fs.getD i default):FileAt N' fs' n b s:=by
 obtain⟨i,h1,h2,h3⟩:=h
 exact⟨i,by rw [hN,h1],by rw [hf i h1];exact h2,by rw [hf i h1];exact h3⟩
theorem FileAt.le {N:NmL} {fs:List FileD} {n:ByteArray} {b:List UInt8} {s s':Nat} (h:FileAt N fs n b s) (hs:s'≤s):FileAt N fs n b s':=by
 obtain⟨i,h1,h2,h3⟩:=h
 exact⟨i,h1,h2,Nat.le_trans hs h3⟩
theorem FileAt.read {d:DiskD} {n:ByteArray} {b:List UInt8} {s:Nat} (h:FileAt d.now d.files n b s):dRead d n=some b:=by
 obtain⟨i,h1,h2,h3⟩:=h
 unfold dRead;rw [h1,Option.map_some,h2]
theorem FileAt.set_eq {N:NmL} {fs:List FileD} {n:ByteArray} {i:Nat} (hi:i < fs.length) (h0:nmAt N n=some i) (x:FileD):FileAt N (fs.set i x) n x.b x.sure:=
 ⟨i,h0,by rw [set_default hi,if_pos rfl],by rw [set_default hi,if_pos rfl];exact Nat.le_refl _⟩
theorem FileAt.set_ne {N:NmL} {fs:List FileD} {n n0:ByteArray} {b:List UInt8} {s k i:Nat} (h:FileAt N fs n b s) (hok:NmOk N k) (hi:i < fs.length) (h0:nmAt N n0=some i) (hne:n≠n0) (x:FileD):FileAt N (fs.set i x) n b s:=by
 refine h.congr rfl (fun j hj=>?_)
 rw [set_default hi,if_neg]
 rintro rfl
 exact hne (nm_id hok.ids (nmAt_mem hj) (nmAt_mem h0))
structure SegsOn (N:NmL) (fs:List FileD) (segs:List Nat) (ver:Nat) (C:List (List FrD)) (L:List FrD) (k:Nat):Prop where
 len:segs.length=C.length+1
 closed:∀ i,i < C.length→FileAt N fs (segName (segs.getD i 0)) (frJoin (C.getD i [])) (frJoin (C.getD i [])).length
 last:FileAt N fs (segName (segs.getD C.length 0)) (frJoin L) (frJoin (L.take k)).length
 few:k≤L.length
 ok:∀ f∈C.flatten++L,FrOk f∧f.ver=ver
def HoldsS (N:NmL) (fs:List FileD) (segs:List Nat) (ver:Nat) (Fr:List FrD) (s:Nat):Prop:=∃ C L k,SegsOn N fs segs ver C L k∧Fr=C.flatten++L∧s≤C.flatten.length+k
def Holds (N:NmL) (fs:List FileD) (m:ManD) (Fr:List FrD) (s:Nat):Prop:=mayM m=true∧FileAt N fs nmHead (frBytes (manFr m)) (frBytes (manFr m)).length∧HoldsS N fs m.segs m.ver Fr s
theorem getD_memN {l:List Nat} {i:Nat} (h:i < l.length):l.getD i 0∈l:=by
 rw [List.getD_eq_getElem?_getD,List.getElem?_eq_getElem h];simp
theorem SegsOn.congr {N N':NmL} {fs fs':List FileD} {segs:List Nat} {ver:Nat} {C:List (List FrD)} {L:List FrD} {k:Nat} (h:SegsOn N fs segs ver C L k) (hN:agree (Mine segs) N' N) (hf:∀ n i,Mine segs n→nmAt N n=some i→fs'.getD i default=fs.getD i default):SegsOn N' fs' segs ver C L k:=by
 have hm:∀ i,i < C.length+1→Mine segs (segName (segs.getD i 0)):=fun i hi=>Or.inr ⟨_,getD_memN (by rw [h.len];exact hi),rfl⟩
 exact⟨h.len,fun i hi=>(h.closed i hi).congr (hN _ (hm i (by omega))) (fun j hj=>hf _ j (hm i (by omega)) hj),h.last.congr (hN _ (hm _ (by omega))) (fun j hj=>hf _ j (hm _ (by omega)) hj),h.few,h.ok⟩
theorem HoldsS.congr {N N':NmL} {fs fs':List FileD} {segs:List Nat} {ver:Nat} {Fr:List FrD} {s:Nat} (h:HoldsS N fs segs ver Fr s) (hN:agree (Mine segs) N' N) (hf:∀ n i,Mine segs n→nmAt N n=some i→fs'.getD i default=fs.getD i default):HoldsS N' fs' segs ver Fr s:=by
 obtain⟨C,L,k,h1,h2,h3⟩:=h
 exact⟨C,L,k,h1.congr hN hf,h2,h3⟩
theorem Holds.congr {N N':NmL} {fs fs':List FileD} {m:ManD} {Fr:List FrD} {s:Nat} (h:Holds N fs m Fr s) (hN:agree (Mine m.segs) N' N) (hf:∀ n i,Mine m.segs n→nmAt N n=some i→fs'.getD i default=fs.getD i default):Holds N' fs' m Fr s:=
 ⟨h.1,h.2.1.congr (hN _ (Or.inl rfl)) (fun j hj=>hf _ j (Or.inl rfl) hj),h.2.2.congr hN hf⟩
theorem HoldsS.le {N:NmL} {fs:List FileD} {segs:List Nat} {ver:Nat} {Fr:List FrD} {s s':Nat} (h:HoldsS N fs segs ver Fr s) (hs:s'≤s):HoldsS N fs segs ver Fr s':=by
 obtain⟨C,L,k,h1,h2,h3⟩:=h
 exact⟨C,L,k,h1,h2,Nat.le_trans hs h3⟩
theorem Holds.le {N:NmL} {fs:List FileD} {m:ManD} {Fr:List FrD} {s s':Nat} (h:Holds N fs m Fr s) (hs:s'≤s):Holds N fs m Fr s':=⟨h.1,h.2.1,h.2.2.le hs⟩
theorem HoldsS.sure_le {N:NmL} {fs:List FileD} {segs:List Nat} {ver:Nat} {Fr:List FrD} {s:Nat} (h:HoldsS N fs segs ver Fr s):s≤Fr.length:=by
 obtain⟨C,L,k,h1,rfl,h3⟩:=h
 have:=h1.few
 rw [List.length_append];omega
structure OnDisk (d:DiskD) (m:ManD) (Fr:List FrD):Prop where
 ok:DiskOk d
 may:mayM m=true
 head:FileAt d.now d.files nmHead (frBytes (manFr m)) (frBytes (manFr m)).length
 segs:∃ (C:List (List FrD)) (L:List FrD) (b:List UInt8),m.segs.length=C.length+1∧(∀ i,i < C.length→FileAt d.now d.files (segName (m.segs.getD i 0)) (frJoin (C.getD i [])) (frJoin (C.getD i [])).length) ∧
  FileAt d.now d.files (segName (m.segs.getD C.length 0)) b 0∧(frScan b).1=L∧(frScan b).2.1=(frJoin L).length∧frJoin L <+: b∧Fr=C.flatten++L∧∀ f∈C.flatten++L,FrOk f∧f.ver=m.ver
/-! A crash. -/
/-! An opening. -/
theorem segB_drop:∀ (l:List Nat) (j:Nat),(segB l).drop (4 * j)=segB (l.drop j)
 | _,0=>rfl
 | [],j+1=>by simp [segB]
 | x::r,j+1=>by
  have e:segB (x::r)=be x 4++segB r:=rfl
  rw [e,show 4 * (j+1)=4+4 * j by omega,← List.drop_drop,List.drop_left' (be_length _ _),segB_drop r j]
  rfl
theorem man_dec {m:ManD} (h:mayM m=true):manDec (frBytes (manFr m))=(m,0):=by
 have ht:=frTake_bytes (man_ok h) []
 rw [List.append_nil] at ht
 obtain⟨⟨v1,v2,s1,s2,n1,n2⟩,_⟩:=mayM_iff.1 h
 have hb:(manFr m).body=be m.next 4++be m.segs.length 2++segB m.segs:=rfl
 have x4:(be m.next 4++be m.segs.length 2++segB m.segs).take 4=be m.next 4:=by rw [List.append_assoc,List.take_left' (be_length _ _)]
 have x6:((be m.next 4++be m.segs.length 2++segB m.segs).drop 4).take 2=be m.segs.length 2:=by rw [List.append_assoc,List.drop_left' (be_length _ _),List.take_left' (be_length _ _)]
 have xs:∀ j,(be m.next 4++be m.segs.length 2++segB m.segs).drop (6+4 * j)=segB (m.segs.drop j):=fun j=>by
  rw [← List.drop_drop,List.drop_left' (by simp [be_length]),segB_drop]
 have hl:(be m.next 4++be m.segs.length 2++segB m.segs).length=6+4 * m.segs.length:=by simp [be_length,segB_length];omega
 have hsg:(List.range m.segs.length).map (fun j=>num ((segB (m.segs.drop j)).take 4))=m.segs:=by
  apply List.ext_getElem (by simp)
  intro j h1 h2
  simp only [List.getElem_map,List.getElem_range]
  have hj:m.segs.drop j=m.segs[j]::m.segs.drop (j+1):=List.drop_eq_getElem_cons h2
  have e:segB (m.segs.drop j)=be m.segs[j] 4++segB (m.segs.drop (j+1)):=by rw [hj];rfl
  rw [e,List.take_left' (be_length _ _),num_be]
  have:=(mayM_seg h (List.getElem_mem h2)).2.2
  omega
 unfold manDec
 rw [ht]
 simp only
 have hk:(manFr m).kind=100:=rfl
 have hv:(manFr m).ver=m.ver:=rfl
 rw [if_neg (by simp),if_neg (by rw [hk];simp),if_neg (by rw [hv];omega),hb,x4,x6,hl,num_be (width:=4) (by omega),num_be (width:=2) (by omega),hv]
 simp only [xs,hsg]
 have e:(⟨m.ver,m.next,m.segs⟩:ManD)=m:=rfl
 rw [e,if_pos ⟨trivial,h⟩]
theorem lastS_eq {l:LogD} {n:Nat} (h:l.m.segs.length=n+1):lastS l=segName (l.m.segs.getD n 0):=by
 unfold lastS
 congr 1
 rw [List.getLastD_eq_getLast?,List.getLast?_eq_getElem?,List.getD_eq_getElem?_getD,h,Nat.add_sub_cancel]
structure Firm (d:DiskD) (m:ManD) (Fr:List FrD) (s:Nat):Prop where
 ok:DiskOk d
 now:Holds d.now d.files m Fr s
 st:∀ N,statesD d N→agree (Mine m.segs) N d.now
structure Loose (d:DiskD) (m:ManD) (Fr:List FrD) (s:Nat) (Fr0:List FrD) (s0:Nat):Prop where
 ok:DiskOk d
 now:Holds d.now d.files m Fr s
 st:∀ N,statesD d N→agree (Mine m.segs) N d.now∨∃ m0,Holds N d.files m0 Fr0 s0
def LogInv (d:DiskD) (l:LogD) (Fr:List FrD) (s:Nat) (Fr0:List FrD) (s0:Nat):Prop:=(l.loose=false∧Firm d l.m Fr s)∨(l.loose=true∧Loose d l.m Fr s Fr0 s0)
theorem Holds.on {d:DiskD} {m:ManD} {Fr:List FrD} {s:Nat} (hok:DiskOk d) (h:Holds d.now d.files m Fr s):OnDisk d m Fr:=by
 obtain⟨hm,hh,C,L,k,h1,rfl,h3⟩:=h
 have hL:∀ f∈L,FrOk f:=fun f hf=>(h1.ok f (List.mem_append_right _ hf)).1
 refine⟨hok,hm,hh,C,L,frJoin L,h1.len,h1.closed,h1.last.le (Nat.zero_le _),by rw [frScan_all hL],by rw [frScan_all hL],List.prefix_refl _,rfl,h1.ok⟩
theorem LogInv.ok {d:DiskD} {l:LogD} {Fr Fr0:List FrD} {s s0:Nat} (h:LogInv d l Fr s Fr0 s0):DiskOk d:=by
 rcases h with ⟨_,h⟩|⟨_,h⟩ <;> exact h.ok
theorem LogInv.now {d:DiskD} {l:LogD} {Fr Fr0:List FrD} {s s0:Nat} (h:LogInv d l Fr s Fr0 s0):Holds d.now d.files l.m Fr s:=by
 rcases h with ⟨_,h⟩|⟨_,h⟩ <;> exact h.now
/-! What calls leave of a firm log. -/
theorem Firm.other {d d':DiskD} {m:ManD} {Fr:List FrD} {s:Nat} (h:Firm d m Fr s) {K:ByteArray→Prop} (hk:∀ n,Mine m.segs n→K n) (ho:Other K d d') (hok:DiskOk d'):Firm d' m Fr s:=by
 have ha:agree (Mine m.segs) d'.now d.now:=fun n hn=>ho.names n (hk n hn)
 refine⟨hok,h.now.congr ha (fun n i hn hi=>ho.files n i (hk n hn) hi),fun N hN=>?_⟩
 rcases ho.states N hN with h1 | h1
 ·exact fun n hn=>(h.st N h1 n hn).trans (ha n hn).symm
 ·exact fun n hn=>(h1 n (hk n hn)).trans (ha n hn).symm
theorem Firm.tick {d:DiskD} {m:ManD} {Fr:List FrD} {s:Nat} (h:Firm d m Fr s):Firm (dTick d) m Fr s:=h.other (fun _ hn=>hn) (Other.tick _ d) (dTick_ok h.ok)
theorem Loose.tick {d:DiskD} {m:ManD} {Fr Fr0:List FrD} {s s0:Nat} (h:Loose d m Fr s Fr0 s0):Loose (dTick d) m Fr s Fr0 s0:=⟨dTick_ok h.ok,h.now,h.st⟩
theorem Firm.sync {d:DiskD} {m:ManD} {Fr:List FrD} {s:Nat} (h:Firm d m Fr s) (hn:d.now=d.now):Firm (dFirm d) m Fr s:=by
 refine⟨⟨h.ok.quota,h.ok.file,⟨rfl,h.ok.now⟩,Nat.zero_le _,h.ok.fops,h.ok.fail,fun n hn=>by simp [dFirm] at hn⟩,h.now,fun N hN=>?_⟩
 obtain⟨j,_,rfl⟩:=hN
 exact fun n hn=>by simp [dFirm]
theorem firm_of {d:DiskD} {m:ManD} {Fr:List FrD} {s:Nat} (hok:DiskOk d) (h:Holds d.now d.files m Fr s):Firm (dFirm d) m Fr s:=by
 refine⟨⟨hok.quota,hok.file,⟨rfl,hok.now⟩,Nat.zero_le _,hok.fops,hok.fail,fun n hn=>by simp [dFirm] at hn⟩,h,fun N hN=>?_⟩
 obtain⟨j,_,rfl⟩:=hN
 exact fun n hn=>by simp [dFirm]
theorem getD_inj {l:List Nat} (h:l.Pairwise (· < ·)) {i j:Nat} (hi:i < l.length) (hj:j < l.length) (hij:i < j):l.getD i 0 < l.getD j 0:=by
 rw [List.getD_eq_getElem?_getD,List.getD_eq_getElem?_getD,List.getElem?_eq_getElem hi,List.getElem?_eq_getElem hj]
 exact List.pairwise_iff_getElem.1 h i j hi hj hij
theorem SegsOn.last_set {N:NmL} {fs:List FileD} {segs:List Nat} {ver:Nat} {C:List (List FrD)} {L:List FrD} {k kk i:Nat} (h:SegsOn N fs segs ver C L k) (hp:segs.Pairwise (· < ·)) (hv:∀ s∈segs,1≤s∧s < 1000000) (hok:NmOk N kk) (hi:i < fs.length)
  (h0:nmAt N (segName (segs.getD C.length 0))=some i) (x:FileD) (L':List FrD) (k':Nat) (hb:x.b=frJoin L') (hs:(frJoin (L'.take k')).length≤x.sure) (hk:k'≤L'.length) (hfr:∀ f∈L',FrOk f∧f.ver=ver):SegsOn N (fs.set i x) segs ver C L' k':=by
 have hl:=h.len
 refine⟨hl,fun j hj=>(h.closed j hj).set_ne hok hi h0 (fun e=>?_) x,?_,hk,fun f hf=>?_⟩
 ·have h1:=getD_inj hp (i:=j) (j:=C.length) (by omega) (by omega) hj
  have:=segName_inj (hv _ (getD_memN (by omega))) (hv _ (getD_memN (by omega))) e
  omega
 ·have:=FileAt.set_eq hi h0 x
  rw [hb] at this
  exact this.le hs
 ·rcases List.mem_append.1 hf with hf | hf
  ·exact h.ok f (List.mem_append_left _ hf)
  ·exact hfr f hf
theorem Holds.last_set {d:DiskD} {m:ManD} {C:List (List FrD)} {L:List FrD} {k i:Nat} {Fr:List FrD} {s:Nat} (h:Holds d.now d.files m Fr s) (h1:SegsOn d.now d.files m.segs m.ver C L k) (hok:DiskOk d)
  (h0:nmAt d.now (segName (m.segs.getD C.length 0))=some i) (x:FileD) (L':List FrD) (k' s':Nat) (hb:x.b=frJoin L') (hs:(frJoin (L'.take k')).length≤x.sure) (hk:k'≤L'.length) (hfr:∀ f∈L',FrOk f∧f.ver=m.ver) (hs':s'≤C.flatten.length+k'):Holds d.now (d.files.set i x) m (C.flatten++L') s':=by
 have hv:∀ s∈m.segs,1≤s∧s < 1000000:=fun s hs=>⟨(mayM_seg h.1 hs).1,(mayM_seg h.1 hs).2.2⟩
 exact⟨h.1,h.2.1.set_ne hok.now (hok.at h0) h0 (fun e=>segName_head _ e.symm) x,C,L',k',h1.last_set (mayM_pair h.1) hv hok.now (hok.at h0) h0 x L' k' hb hs hk hfr,rfl,hs'⟩
theorem Firm.syncLast {d:DiskD} {l:LogD} {Fr:List FrD} {s:Nat} (h:Firm d l.m Fr s):((dSync d (lastS l)).2=0∧Firm (dSync d (lastS l)).1 l.m Fr Fr.length)∨((dSync d (lastS l)).2≠0∧Firm (dSync d (lastS l)).1 l.m Fr s):=by
 obtain⟨hm,hh,C,L,k,h1,rfl,h3⟩:=h.now
 rcases dSync_cases d (lastS l) with ⟨e,h2,he⟩|⟨_,i,h4,h5⟩
 ·rw [h2];exact Or.inr ⟨by simp only;omega,h.tick⟩
 ·left
  have hok:=dSync_ok h.ok (lastS l)
  rw [h5] at hok ⊢
  rw [lastS_eq h1.len] at h4
  obtain⟨i',e1,e2,e3⟩:=h1.last
  obtain rfl:i=i':=by rw [h4] at e1;exact Option.some.inj e1
  refine⟨rfl,hok,?_,fun N hN=>h.st N hN⟩
  exact h.now.last_set h1 h.ok h4 ⟨(d.files.getD i default).b,(d.files.getD i default).b.length⟩ L L.length _ e2 (by simp only;rw [e2,List.take_length];omega) (Nat.le_refl _) (fun f hf=>h1.ok f (List.mem_append_right _ hf)) (by rw [List.length_append];omega)
theorem Firm.write {d:DiskD} {l:LogD} {Fr:List FrD} {s:Nat} (h:Firm d l.m Fr s) {f:FrD} (hf:FrOk f∧f.ver=l.m.ver):((dAppend d (lastS l) (frBytes f)).2=0∧Firm (dAppend d (lastS l) (frBytes f)).1 l.m (Fr++[f]) s)∨((dAppend d (lastS l) (frBytes f)).2≠0∧Firm (dAppend d (lastS l) (frBytes f)).1 l.m Fr s):=by
 obtain⟨hm,hh,C,L,k,h1,rfl,h3⟩:=h.now
 obtain⟨i',e1,e2,e3⟩:=h1.last
 have hfew:=h1.few
 have hok:=dAppend_ok h.ok (lastS l) (frBytes f)
 rcases dAppend_cases d (lastS l) (frBytes f) with ⟨e,h2,he⟩|⟨_,_,_,⟨i,h4,h5⟩|⟨h4,_⟩⟩
 ·rw [h2];exact Or.inr ⟨by simp only;omega,h.tick⟩
 ·left
  rw [h5] at hok ⊢
  rw [lastS_eq h1.len] at h4
  obtain rfl:i=i':=by rw [h4] at e1;exact Option.some.inj e1
  refine⟨rfl,hok,?_,fun N hN=>h.st N hN⟩
  rw [List.append_assoc]
  refine h.now.last_set h1 h.ok h4 ⟨(d.files.getD i default).b++frBytes f,(d.files.getD i default).sure⟩ (L++[f]) k s ?_ ?_ (by rw [List.length_append];omega) (fun g hg=>?_) h3
  ·simp only;rw [e2,frJoin_append];simp [frJoin]
  ·rw [List.take_append_of_le_length hfew];exact e3
  ·rcases List.mem_append.1 hg with hg | hg
   ·exact h1.ok g (List.mem_append_right _ hg)
   ·simp at hg;subst hg;exact hf
 ·rw [lastS_eq h1.len,e1] at h4;cases h4
/-! A manifest is written. -/
theorem clear_other {K:ByteArray→Prop} {d:DiskD} (h:DiskOk d) {n:ByteArray} (hn:¬ K n):Other K d (clearD n d).1:=by
 unfold clearD;split
 ·exact Other.remove h hn
 ·exact Other.refl K d
theorem clear_ok {d:DiskD} (h:DiskOk d) (n:ByteArray):DiskOk (clearD n d).1:=by
 unfold clearD;split
 ·exact dRemove_ok h n
 ·exact h
theorem clear_none {d:DiskD} (h:DiskOk d) {n:ByteArray} (h0:(clearD n d).2=0):nmAt (clearD n d).1.now n=none:=by
 unfold clearD at h0 ⊢
 split
 ·rename_i hs
  rw [if_pos hs] at h0
  rcases dRemove_cases d n with ⟨e,h1,he⟩|⟨_,_,h1⟩
  ·rw [h1] at h0;simp only at h0;omega
  ·rw [h1];show nmAt (nmDel d.now n) n=none
   rw [nmAt_del h.now.row,if_pos rfl]
 ·rename_i hs
  simpa using hs
theorem append_new {d:DiskD} (h:DiskOk d) {n:ByteArray} {b:List UInt8} (hn:nmAt d.now n=none) (h0:(dAppend d n b).2=0):FileAt (dAppend d n b).1.now (dAppend d n b).1.files n b 0:=by
 rcases dAppend_cases d n b with ⟨e,h1,he⟩|⟨_,_,_,⟨i,h4,_⟩|⟨_,h5⟩⟩
 ·rw [h1] at h0;simp only at h0;omega
 ·rw [hn] at h4;cases h4
 ·rw [h5]
  have hi:d.files.length < (d.files++[(⟨[],0⟩:FileD)]).length:=by simp
  refine⟨d.files.length,?_,?_,Nat.zero_le _⟩
  ·show nmAt (nmPut d.now n d.files.length) n=_
   rw [nmAt_put h.now.row,if_pos rfl]
  ·show (((dGrow (dTick d)).files.set d.files.length _).getD d.files.length default).b=b
   rw [set_default (by exact hi),if_pos rfl]
   simp [dChange,dGrow,dTick]
theorem sync_at {d:DiskD} {n:ByteArray} {b:List UInt8} {s:Nat} (hok:DiskOk d) (h:FileAt d.now d.files n b s) (h0:(dSync d n).2=0):FileAt (dSync d n).1.now (dSync d n).1.files n b b.length:=by
 obtain⟨i,h1,h2,h3⟩:=h
 rcases dSync_cases d n with ⟨e,h4,he⟩|⟨_,j,h4,h5⟩
 ·rw [h4] at h0;simp only at h0;omega
 ·obtain rfl:i=j:=by rw [h1] at h4;exact Option.some.inj h4
  rw [h5]
  have:=FileAt.set_eq (N:=d.now) (hok.at h4) h4 ⟨(d.files.getD i default).b,(d.files.getD i default).b.length⟩
  rw [h2] at this
  simp only at this
  show FileAt d.now (d.files.set i _) n b b.length
  rw [h2];exact this
theorem commit_firm {d:DiskD} {m m':ManD} {Fr Fr':List FrD} {s s':Nat} (h:Firm d m Fr s) (h':HoldsS d.now d.files m'.segs m'.ver Fr' s') :
  ((commitD m' d).2.1=false∧(commitD m' d).2.2≠0∧Firm (commitD m' d).1 m Fr s)∨((commitD m' d).2.1=true∧(commitD m' d).2.2=0∧mayM m'=true∧Firm (commitD m' d).1 m' Fr' s')∨((commitD m' d).2.1=true∧(commitD m' d).2.2≠0∧Loose (commitD m' d).1 m' Fr' s' Fr s):=by
 unfold commitD
 by_cases hm:mayM m'=false
 ·rw [if_pos hm];exact Or.inl ⟨rfl,by simp,h⟩
 have hm':mayM m'=true:=by simpa using hm
 rw [if_neg hm]
 have nf:¬ (fun n=>n≠nmFresh) nmFresh:=fun h=>h rfl
 have hk:∀ (segs:List Nat) n,Mine segs n→n≠nmFresh:=fun segs n hn e=>mine_fresh (e ▸ hn)
 have o1:=clear_other (K:=fun n=>n≠nmFresh) h.ok nf
 have k1:=clear_ok h.ok nmFresh
 have n1:=clear_none (n:=nmFresh) h.ok
 have hfresh:freshD m' d=thenD (thenD (thenD (clearD nmFresh d) (fun d=>dAppend d nmFresh (frBytes (manFr m')))) (fun d=>dSync d nmFresh)) (fun d=>dRename d nmFresh nmHead):=rfl
 generalize clearD nmFresh d=r1 at *
 by_cases e1:r1.2=0
 case neg=>
  rw [thenD_err e1,thenD_err e1,thenD_err e1] at hfresh
  rw [hfresh,if_pos e1]
  exact Or.inl ⟨rfl,e1,h.other (hk _) o1 k1⟩
 rw [thenD_ok e1] at hfresh
 have o2:=o1.trans (Other.append (K:=fun n=>n≠nmFresh) k1 nf (frBytes (manFr m')))
 have k2:=dAppend_ok k1 nmFresh (frBytes (manFr m'))
 have n2:=append_new k1 (b:=frBytes (manFr m')) (n1 e1)
 generalize dAppend r1.1 nmFresh (frBytes (manFr m'))=r2 at *
 by_cases e2:r2.2=0
 case neg=>
  rw [thenD_err e2,thenD_err e2] at hfresh
  rw [hfresh,if_pos e2]
  exact Or.inl ⟨rfl,e2,h.other (hk _) o2 k2⟩
 rw [thenD_ok e2] at hfresh
 have o3:=o2.trans (Other.sync (K:=fun n=>n≠nmFresh) k2 nf)
 have k3:=dSync_ok k2 nmFresh
 have n3:=sync_at k2 (n2 e2)
 generalize dSync r2.1 nmFresh=r3 at *
 by_cases e3:r3.2=0
 case neg=>
  rw [thenD_err e3] at hfresh
  rw [hfresh,if_pos e3]
  exact Or.inl ⟨rfl,e3,h.other (hk _) o3 k3⟩
 rw [thenD_ok e3] at hfresh
 have f3:=h.other (hk _) o3 k3
 have g3:HoldsS r3.1.now r3.1.files m'.segs m'.ver Fr' s':=h'.congr (fun n hn=>o3.names n (hk _ n hn)) (fun n i hn hi=>o3.files n i (hk _ n hn) hi)
 obtain⟨x,x1,x2,x3⟩:=n3 e3
 rcases dRename_cases r3.1 nmFresh nmHead with ⟨e,h4,he⟩|⟨_,_,_,⟨h4,_⟩|⟨_,h4⟩⟩
 ·rw [h4] at hfresh
  rw [hfresh,if_pos (by simp only;omega)]
  exact Or.inl ⟨rfl,by simp only;omega,f3.tick⟩
 ·exact absurd h4.symm head_fresh
 ·have k4:=dRename_ok k3 nmFresh nmHead
  rw [h4] at hfresh k4
  rw [hfresh,if_neg (by simp)]
  simp only at k4 ⊢
  have hat:∀ n,n≠nmFresh→nmAt (dChange (dTick r3.1) (.ren nmFresh nmHead)).now n=if n=nmHead then some x else nmAt r3.1.now n:=fun n hn=>by
   show nmAt (nmDo r3.1.now (.ren nmFresh nmHead)) n=_
   have e:nmDo r3.1.now (.ren nmFresh nmHead)=nmDel (nmPut r3.1.now nmHead x) nmFresh:=by simp only [nmDo,x1]
   rw [e,nmAt_del (nmPut_row k3.now.row _ _),if_neg hn,nmAt_put k3.now.row]
  have hnow:Holds (dChange (dTick r3.1) (.ren nmFresh nmHead)).now (dChange (dTick r3.1) (.ren nmFresh nmHead)).files m' Fr' s':=by
   refine⟨hm',⟨x,by rw [hat _ head_fresh,if_pos rfl],x2,x3⟩,?_⟩
   obtain⟨C,L,k,c1,c2,c3⟩:=g3
   have hsn:∀ i,nmAt (dChange (dTick r3.1) (.ren nmFresh nmHead)).now (segName i)=nmAt r3.1.now (segName i):=fun i=>by
    rw [hat _ (segName_fresh _),if_neg (segName_head _)]
   exact⟨C,L,k,⟨c1.len,fun i hi=>(c1.closed i hi).congr (hsn _) (fun _ _=>rfl),c1.last.congr (hsn _) (fun _ _=>rfl),c1.few,c1.ok⟩,c2,c3⟩
  right
  rcases dSyncDir_cases (dChange (dTick r3.1) (.ren nmFresh nmHead)) with h6 | ⟨_,h6⟩
  ·right
   rw [h6]
   refine⟨trivial,by simp,dTick_ok k4,hnow,fun N hN=>?_⟩
   rcases states_change (dTick_ok k3) hN with h7 | h7
   ·exact Or.inr ⟨m,f3.now.congr (f3.st N h7) (fun _ _ _ _=>rfl)⟩
   ·subst h7;exact Or.inl (fun _ _=>rfl)
  ·left
   rw [h6]
   exact⟨trivial,by simp,hm',firm_of (dTick_ok k4) hnow⟩
/-! The log's calls. -/
theorem settle_inv {d:DiskD} {l:LogD} {Fr Fr0:List FrD} {s s0:Nat} (h:LogInv d l Fr s Fr0 s0) :
  ((settleL (d,l)).2=0∧(settleL (d,l)).1.2=⟨l.size,l.m,false⟩∧Firm (settleL (d,l)).1.1 l.m Fr s)∨((settleL (d,l)).2≠0∧(settleL (d,l)).1.2=l∧LogInv (settleL (d,l)).1.1 l Fr s Fr0 s0):=by
 unfold settleL
 rcases h with ⟨h1,h⟩|⟨h1,h⟩
 ·left
  simp only [h1]
  refine⟨by simp,?_,h⟩
  cases l;simp only at h1;subst h1;rfl
 ·simp only [h1]
  rcases dSyncDir_cases d with h6 | ⟨_,h6⟩
  ·right
   rw [h6]
   refine⟨by simp,?_,Or.inr ⟨h1,h.tick⟩⟩
   cases l;simp only at h1;subst h1;simp
  ·left
   rw [h6]
   exact⟨by simp,by simp,firm_of (dTick_ok h.ok) h.now⟩
theorem Firm.le {d:DiskD} {m:ManD} {Fr:List FrD} {s s':Nat} (h:Firm d m Fr s) (hs:s'≤s):Firm d m Fr s':=⟨h.ok,h.now.le hs,h.st⟩
theorem Firm.sure_le {d:DiskD} {m:ManD} {Fr:List FrD} {s:Nat} (h:Firm d m Fr s):s≤Fr.length:=h.now.2.2.sure_le
theorem Loose.le {d:DiskD} {m:ManD} {Fr Fr0:List FrD} {s s' s0 s0':Nat} (h:Loose d m Fr s Fr0 s0) (hs:s'≤s) (hs0:s0'≤s0):Loose d m Fr s' Fr0 s0':=
 ⟨h.ok,h.now.le hs,fun N hN=>by
  rcases h.st N hN with h1 | ⟨m0,h1⟩
  ·exact Or.inl h1
  ·exact Or.inr ⟨m0,h1.le hs0⟩⟩
theorem Firm.valid {d:DiskD} {m:ManD} {Fr:List FrD} {s:Nat} (h:Firm d m Fr s):∀ x∈m.segs,1≤x∧x < 1000000:=fun x hx=>⟨(mayM_seg h.now.1 hx).1,(mayM_seg h.now.1 hx).2.2⟩
theorem getD_append_left' {l:List Nat} {x i:Nat} (h:i < l.length):(l++[x]).getD i 0=l.getD i 0:=by
 rw [List.getD_eq_getElem?_getD,List.getD_eq_getElem?_getD,List.getElem?_append_left h]
theorem getD_append_last {l:List Nat} {x n:Nat} (h:l.length=n):(l++[x]).getD n 0=x:=by
 rw [List.getD_eq_getElem?_getD,← h];simp
theorem SegsOn.snoc {N N':NmL} {fs fs':List FileD} {segs:List Nat} {ver:Nat} {C:List (List FrD)} {L F:List FrD} {k x:Nat} (h:SegsOn N fs segs ver C L k) (hk:L.length≤k) (hN:∀ s∈segs,nmAt N' (segName s)=nmAt N (segName s)) (hf:∀ s∈segs,∀ i,nmAt N (segName s)=some i→fs'.getD i default=fs.getD i default)
  (hx:FileAt N' fs' (segName x) (frJoin F) 0) (hF:∀ f∈F,FrOk f∧f.ver=ver):SegsOn N' fs' (segs++[x]) ver (C++[L]) F 0:=by
 have hl:=h.len
 refine⟨by simp [hl],fun i hi=>?_,?_,Nat.zero_le _,fun f hf=>?_⟩
 ·rw [List.length_append,List.length_singleton] at hi
  rw [getD_append_left' (by omega)]
  have hm:segs.getD i 0∈segs:=getD_memN (by omega)
  by_cases e:i < C.length
  ·have e2:(C++[L]).getD i []=C.getD i []:=by rw [List.getD_eq_getElem?_getD,List.getD_eq_getElem?_getD,List.getElem?_append_left e]
   rw [e2]
   exact (h.closed i e).congr (hN _ hm) (hf _ hm)
  ·obtain rfl:i=C.length:=by omega
   have e2:(C++[L]).getD C.length []=L:=by rw [List.getD_eq_getElem?_getD];simp
   rw [e2]
   have:=h.last
   rw [List.take_of_length_le hk] at this
   exact this.congr (hN _ hm) (hf _ hm)
 ·rw [getD_append_last (by simp [hl])];exact hx
 ·rw [List.flatten_append] at hf
  simp only [List.flatten_cons,List.flatten_nil,List.append_nil] at hf
  rcases List.mem_append.1 hf with hf | hf
  ·exact h.ok f hf
  ·exact hF f hf
theorem turn_inv {d:DiskD} {l:LogD} {Fr:List FrD} {s:Nat} (h:Firm d l.m Fr s) (hl:l.loose=false) :
  (turnL (d,l)).1.2.size=l.size∧(turnL (d,l)).1.2.m.ver=l.m.ver∧(((turnL (d,l)).2=0∧(turnL (d,l)).1.2.loose=false∧Firm (turnL (d,l)).1.1 (turnL (d,l)).1.2.m Fr Fr.length)∨((turnL (d,l)).2≠0∧LogInv (turnL (d,l)).1.1 (turnL (d,l)).1.2 Fr s Fr s)):=by
 have hsl:=h.sure_le
 unfold turnL
 simp only
 by_cases h64:64≤l.m.segs.length
 ·rw [if_pos h64];exact⟨rfl,rfl,Or.inr ⟨by simp,Or.inl ⟨hl,h⟩⟩⟩
 rw [if_neg h64]
 have e1:onDisk (fun d=>dSync d (lastS l)) (d,l)=(((dSync d (lastS l)).1,l),(dSync d (lastS l)).2):=rfl
 rw [e1]
 rcases h.syncLast (l:=l) with ⟨s1,f1⟩|⟨s1,f1⟩
 case inr=>
  have s1':((((dSync d (lastS l)).1,l),(dSync d (lastS l)).2):DL×Int).2≠0:=s1
  rw [thenD_err s1',thenD_err s1',thenD_err s1']
  exact⟨rfl,rfl,Or.inr ⟨s1,Or.inl ⟨hl,f1⟩⟩⟩
 generalize dSync d (lastS l)=r1 at *
 have s1':(((r1.1,l),r1.2):DL×Int).2=0:=s1
 rw [thenD_ok s1']
 have hv:=f1.valid
 have hnot:l.m.next ∉ l.m.segs:=fun hm=>by have:=mayM_seg f1.now.1 hm;omega
 have hmine:∀ n,Mine l.m.segs n→n≠segName l.m.next:=fun n hn e=>mine_not hv hnot (e ▸ hn)
 have nk:¬ (fun n=>n≠segName l.m.next) (segName l.m.next):=fun h=>h rfl
 have e2:onDisk (beginD l.m.next) (r1.1,l)=(((beginD l.m.next r1.1).1,l),(beginD l.m.next r1.1).2):=rfl
 rw [e2]
 have hb:beginD l.m.next r1.1=thenD (clearD (segName l.m.next) r1.1) (fun d=>dAppend d (segName l.m.next) []):=rfl
 have o1:=clear_other (K:=fun n=>n≠segName l.m.next) f1.ok nk
 have k1:=clear_ok f1.ok (segName l.m.next)
 have n1:=clear_none (n:=segName l.m.next) f1.ok
 generalize clearD (segName l.m.next) r1.1=c1 at *
 by_cases q1:c1.2=0
 case neg=>
  rw [thenD_err q1] at hb
  have q1':(((c1.1,l),c1.2):DL×Int).2≠0:=q1
  rw [hb,thenD_err q1',thenD_err q1']
  exact⟨rfl,rfl,Or.inr ⟨q1,Or.inl ⟨hl,(f1.other hmine o1 k1).le hsl⟩⟩⟩
 rw [thenD_ok q1] at hb
 rw [hb]
 have o2:=o1.trans (Other.append (K:=fun n=>n≠segName l.m.next) k1 nk [])
 have k2:=dAppend_ok k1 (segName l.m.next) []
 have n2:=append_new k1 (b:=[]) (n1 q1)
 generalize dAppend c1.1 (segName l.m.next) []=c2 at *
 by_cases q2:c2.2=0
 case neg=>
  have q2':(((c2.1,l),c2.2):DL×Int).2≠0:=q2
  rw [thenD_err q2',thenD_err q2']
  exact⟨rfl,rfl,Or.inr ⟨q2,Or.inl ⟨hl,(f1.other hmine o2 k2).le hsl⟩⟩⟩
 have q2':(((c2.1,l),c2.2):DL×Int).2=0:=q2
 rw [thenD_ok q2']
 have e3:onDisk (fun d=>dSync d (segName l.m.next)) (c2.1,l)=(((dSync c2.1 (segName l.m.next)).1,l),(dSync c2.1 (segName l.m.next)).2):=rfl
 rw [e3]
 have o3:=o2.trans (Other.sync (K:=fun n=>n≠segName l.m.next) k2 nk)
 have k3:=dSync_ok k2 (segName l.m.next)
 have n3:=sync_at k2 (n2 q2)
 generalize dSync c2.1 (segName l.m.next)=c3 at *
 have f3:=f1.other hmine o3 k3
 by_cases q3:c3.2=0
 case neg=>
  have q3':(((c3.1,l),c3.2):DL×Int).2≠0:=q3
  rw [thenD_err q3']
  exact⟨rfl,rfl,Or.inr ⟨q3,Or.inl ⟨hl,f3.le hsl⟩⟩⟩
 have q3':(((c3.1,l),c3.2):DL×Int).2=0:=q3
 rw [thenD_ok q3']
 have hS:HoldsS c3.1.now c3.1.files (turnM l).segs (turnM l).ver Fr Fr.length:=by
  obtain⟨_,_,C,L,k,g1,rfl,g3⟩:=f3.now
  refine⟨C++[L],[],0,g1.snoc ?_ (fun _ _=>rfl) (fun _ _ _ _=>rfl) ((n3 q3).le (Nat.zero_le _)) (fun f hf=>by simp at hf),by simp,by simp⟩
  rw [List.length_append] at g3;omega
 have hc:=commit_firm f3 hS
 unfold adoptL
 simp only
 generalize commitD (turnM l) c3.1=r at *
 rcases hc with ⟨b1,b2,b3⟩|⟨b1,b2,b3,b4⟩|⟨b1,b2,b3⟩
 ·rw [if_neg (by rw [b1];simp)]
  exact⟨rfl,rfl,Or.inr ⟨b2,Or.inl ⟨hl,b3.le hsl⟩⟩⟩
 ·rw [if_pos b1]
  exact⟨rfl,rfl,Or.inl ⟨b2,by simp [b2],b4⟩⟩
 ·rw [if_pos b1]
  exact⟨rfl,rfl,Or.inr ⟨b2,Or.inr ⟨by simp [b2],b3.le hsl hsl⟩⟩⟩
theorem put_ok {kind:Int} {ver:Nat} {body:List UInt8} (h:putErr kind ver body.length=0):FrOk ⟨kind.toNat,ver,body⟩:=by
 unfold putErr at h
 split at h
 ·cases h
 ·split at h
  ·cases h
  ·exact⟨by simp only;omega,by simp only;omega,by simp only;omega⟩
theorem append_inv {d:DiskD} {l:LogD} {Fr Fr0:List FrD} {s s0:Nat} (h:LogInv d l Fr s Fr0 s0) (kind:Int) (body:List UInt8) :
  (appendL kind body (d,l)).1.2.size=l.size∧(appendL kind body (d,l)).1.2.m.ver=l.m.ver ∧
  (((appendL kind body (d,l)).2=0∧(appendL kind body (d,l)).1.2.loose=false∧Firm (appendL kind body (d,l)).1.1 (appendL kind body (d,l)).1.2.m (Fr++[⟨kind.toNat,l.m.ver,body⟩]) s) ∨
    ((appendL kind body (d,l)).2≠0∧(LogInv (appendL kind body (d,l)).1.1 (appendL kind body (d,l)).1.2 Fr s Fr0 s0∨LogInv (appendL kind body (d,l)).1.1 (appendL kind body (d,l)).1.2 Fr s Fr s))):=by
 unfold appendL
 simp only
 by_cases hp:putErr kind l.m.ver body.length=0
 case neg=>rw [if_pos hp];exact⟨rfl,rfl,Or.inr ⟨hp,Or.inl h⟩⟩
 rw [if_neg (by simp [hp])]
 have hfo:=put_ok hp
 have h1:=settle_inv h
 generalize settleL (d,l)=r at *
 rcases h1 with ⟨h2,h3,h4⟩|⟨h2,h3,h4⟩
 case inr=>
  rw [thenD_err h2,thenD_err h2,h3]
  exact⟨rfl,rfl,Or.inr ⟨h2,Or.inl h4⟩⟩
 rw [thenD_ok h2]
 obtain⟨⟨d1,l1⟩,e1⟩:=r
 simp only at h2 h3 h4 ⊢
 subst h3
 generalize hgen:(if fitsL ⟨l.size,l.m,false⟩ (bytesD d1 (lastS ⟨l.size,l.m,false⟩)) (frBytes ⟨kind.toNat,l.m.ver,body⟩).length=true then ((d1,(⟨l.size,l.m,false⟩:LogD)),(0:Int)) else turnL (d1,⟨l.size,l.m,false⟩))=r2
 have h5:r2.1.2.size=l.size∧r2.1.2.m.ver=l.m.ver∧((r2.2=0∧r2.1.2.loose=false∧Firm r2.1.1 r2.1.2.m Fr s)∨(r2.2≠0∧LogInv r2.1.1 r2.1.2 Fr s Fr s)):=by
  rw [← hgen]
  split
  ·exact⟨rfl,rfl,Or.inl ⟨rfl,rfl,h4⟩⟩
  ·obtain⟨t1,t2,t3⟩:=turn_inv (l:=⟨l.size,l.m,false⟩) h4 rfl
   refine⟨t1,t2,?_⟩
   rcases t3 with ⟨u1,u2,u3⟩|⟨u1,u2⟩
   ·exact Or.inl ⟨u1,u2,u3.le h4.sure_le⟩
   ·exact Or.inr ⟨u1,u2⟩
 clear hgen
 obtain⟨h6,h7,h8⟩:=h5
 rcases h8 with ⟨h9,h10,h11⟩|⟨h9,h10⟩
 case inr=>
  rw [thenD_err h9]
  exact⟨h6,h7,Or.inr ⟨h9,Or.inr h10⟩⟩
 rw [thenD_ok h9]
 unfold onDisk
 simp only
 refine⟨h6,h7,?_⟩
 rcases h11.write (l:=r2.1.2) (f:=⟨kind.toNat,l.m.ver,body⟩) ⟨hfo,h7.symm⟩ with ⟨k1,k2⟩|⟨k1,k2⟩
 ·exact Or.inl ⟨k1,h10,k2⟩
 ·exact Or.inr ⟨k1,Or.inl (Or.inl ⟨h10,k2⟩)⟩
/-! Rows are laid beside a log. -/
structure Beside (d0:DiskD) (m:ManD) (s:DiskD×List Nat×Nat):Prop where
 other:Other (Mine m.segs) d0 s.1
 ok:DiskOk s.1
 segs:s.2.1=(List.range s.2.1.length).map (fun i=>m.next+i)
structure Laid (d0:DiskD) (m:ManD) (ver:Nat) (P:List FrD) (full:Bool) (s:DiskD×List Nat×Nat):Prop where
 beside:Beside d0 m s
 valid:∀ x∈s.2.1,x < 1000000
 held:(s.2.1=[]∧P=[])∨∃ C L k,SegsOn s.1.now s.1.files s.2.1 ver C L k∧P=C.flatten++L∧s.2.2=(frJoin L).length∧(full=true→L.length≤k)
theorem fails_not {d:DiskD} (h:d.fail=0):¬ dFails d:=by unfold dFails;omega
theorem sync_nofail {d:DiskD} {n:ByteArray} {i:Nat} (h:d.fail=0) (hi:nmAt d.now n=some i):dSync d n=(dSet (dTick d) i ⟨(d.files.getD i default).b,(d.files.getD i default).b.length⟩,0):=by
 unfold dSync;rw [if_neg (fails_not h),hi]
theorem syncdir_nofail {d:DiskD} (h:d.fail=0):dSyncDir d=(dFirm (dTick d),0):=by unfold dSyncDir;rw [if_neg (fails_not h)]
theorem tick_fail {d:DiskD} (h:d.fail=0):(dTick d).fail=0:=by show d.fail - 1=0;omega
theorem flen_set {d:DiskD} {i:Nat} (hi:i < d.files.length) (x:FileD) (hx:x.b.length≤flen d i) (j:Nat):flen (dSet d i x) j≤flen d j:=by
 unfold flen dSet at *
 simp only
 rw [set_default hi]
 split
 ·rename_i e;subst e;exact hx
 ·exact Nat.le_refl _
theorem sum_le {α:Type} {f g:α→Nat}:∀ {l:List α},(∀ x∈l,f x≤g x)→(l.map f).sum≤(l.map g).sum
 | [],_=>Nat.le_refl _
 | a::r,h=>by
  have:=sum_le (l:=r) (fun x hx=>h x (List.mem_cons_of_mem _ hx))
  have h2:=h a (by simp)
  simp only [List.map_cons,List.sum_cons];omega
theorem size_set {d:DiskD} {i:Nat} (hi:i < d.files.length) (x:FileD) (hx:x.b.length≤flen d i):dSize (dSet d i x)≤dSize d:=sum_le (fun y _=>flen_set hi x hx y.2)
structure Opened (d d':DiskD):Prop where
 fail:d'.fail=0
 quota:d'.quota=d.quota
 now:d'.now=d.now
 size:dSize d'≤dSize d
 ops:d'.ops≤d.ops+3
 chs:d'.ch=[]
 files:d'.files.length=d.files.length
def openE (d:DiskD) (l:LogD) (n:Nat):DiskD×Int:=thenD (thenD (if n=bytesD d (lastS l) then (d,0) else dCut d (lastS l) n) (fun d=>dSync d (lastS l))) dSyncDir
structure Rm (d:DiskD) (B n:Nat):Prop where
 fail:d.fail=0
 bytes:dSize d+B≤d.quota
 names:d.now.length+n≤200
 small:d.quota≤1048576
theorem Rm.le {d:DiskD} {B n B' n':Nat} (h:Rm d B n) (hB:B'≤B) (hn:n'≤n):Rm d B' n':=⟨h.fail,by have:=h.bytes;omega,by have:=h.names;omega,h.small⟩
theorem Rm.same {d d':DiskD} {B n:Nat} (h:Rm d B n) (h1:d'.fail=0) (h2:d'.quota=d.quota) (h3:dSize d'≤dSize d) (h4:d'.now.length≤d.now.length):Rm d' B n:=
 ⟨h1,by rw [h2];have:=h.bytes;omega,by have:=h.names;omega,by rw [h2];exact h.small⟩
theorem sum_perm {l l':NmL} (f:ByteArray×Nat→Nat) (h:l.Perm l'):(l.map f).sum=(l'.map f).sum:=(h.map f).sum_nat
theorem sum_sub {f:ByteArray×Nat→Nat}:∀ {l l':NmL},l.Sublist l'→(l.map f).sum≤(l'.map f).sum
 | _,_,.slnil=>Nat.le_refl _
 | _,_,.cons a h=>by have:=sum_sub (f:=f) h;simp only [List.map_cons,List.sum_cons];omega
 | _,_,.cons_cons a h=>by have:=sum_sub (f:=f) h;simp only [List.map_cons,List.sum_cons];omega
theorem flen_le_size {d:DiskD} {n:ByteArray} {i:Nat} (hi:nmAt d.now n=some i):flen d i≤dSize d:=by
 have hm:=nmAt_mem hi
 unfold dSize
 have:∀ (l:NmL),(n,i)∈l→flen d i≤(l.map (fun x=>flen d x.2)).sum:=by
  intro l
  induction l with
  | nil=>intro h;simp at h
  | cons a r ih=>
   intro h
   simp only [List.map_cons,List.sum_cons]
   rcases List.mem_cons.1 h with e | h
   ·rw [← e];simp only;omega
   ·have:=ih h;omega
 exact this _ hm
theorem size_grow {d:DiskD} {i:Nat} (hi:i < d.files.length) (x:FileD) {k:Nat} (hx:x.b.length≤flen d i+k):∀ (l:NmL),(l.map (·.2)).Nodup→(l.map (fun y=>flen (dSet d i x) y.2)).sum≤(l.map (fun y=>flen d y.2)).sum+k
 | [],_=>by simp
 | a::r,hn=>by
  obtain⟨n1,n2⟩:=List.nodup_cons.1 hn
  simp only [List.map_cons,List.sum_cons]
  by_cases e:a.2=i
  ·have h1:flen (dSet d i x) a.2≤flen d a.2+k:=by
    unfold flen dSet at *
    simp only
    rw [set_default hi,if_pos e,e];exact hx
   have h2:(r.map (fun y=>flen (dSet d i x) y.2))=(r.map (fun y=>flen d y.2)):=List.map_congr_left (fun y hy=>by
    unfold flen dSet
    simp only
    rw [set_default hi,if_neg (fun e2=>n1 (List.mem_map.2 ⟨y,hy,e2.trans e.symm⟩))])
   rw [h2];omega
  ·have h1:flen (dSet d i x) a.2=flen d a.2:=by
    unfold flen dSet
    simp only
    rw [set_default hi,if_neg e]
   have:=size_grow hi x hx r n2
   omega
theorem app_rm {d:DiskD} {B n:Nat} (hok:DiskOk d) (h:Rm d B n) {nm:ByteArray} (hn:namedB nm=true) {b:List UInt8} (hb:b.length≤B) (h1:nmAt d.now nm=none→1≤n) :
  (dAppend d nm b).2=0∧Rm (dAppend d nm b).1 (B - b.length) (if nmAt d.now nm=none then n - 1 else n)∧(nmAt d.now nm≠none→(dAppend d nm b).1.now=d.now):=by
 have hq:=h.bytes
 have hq2:=h.small
 have hnm:=h.names
 have hroom:dRoom d (nmAt d.now nm) b.length=true:=by
  rw [dRoom_iff]
  refine⟨by omega,by omega,?_,fun e=>?_⟩
  ·cases e:nmAt d.now nm with
   | none=>simp only;omega
   | some i=>have:=flen_le_size e;simp only;omega
  ·have:=h1 e;omega
 rcases dAppend_cases d nm b with ⟨e,h2,he⟩|⟨_,_,_,⟨i,h4,h5⟩|⟨h4,h5⟩⟩
 ·exfalso
  unfold dAppend at h2
  rw [if_neg (fails_not h.fail),if_neg (by simp [hn]),if_neg (by simp [hroom])] at h2
  have h3:=congrArg Prod.snd h2
  split at h3 <;> (simp only at h3;omega)
 ·rw [h5,h4]
  have hi:=hok.at h4
  have hsz:dSize (dWrite (dTick d) i b)≤dSize d+b.length:=by
   refine size_grow (d:=dTick d) hi _ (k:=b.length) ?_ d.now hok.now.ids
   simp only [flen,List.length_append];exact Nat.le_refl _
  refine⟨rfl,⟨tick_fail h.fail,?_,by simp only [if_neg (by simp:¬ (some i=none))];exact hnm,hq2⟩,fun _=>rfl⟩
  show dSize (dWrite (dTick d) i b)+(B - b.length)≤d.quota
  omega
 ·rw [h5,h4]
  have hp:=nmPut_perm d.now nm d.files.length
  rw [nmDel_none h4] at hp
  have hsz:dSize (dWrite (dChange (dGrow (dTick d)) (.made nm d.files.length)) d.files.length b)≤dSize d+b.length:=by
   show ((nmPut d.now nm d.files.length).map (fun y=>flen (dSet (dChange (dGrow (dTick d)) (.made nm d.files.length)) d.files.length _) y.2)).sum≤_
   refine Nat.le_trans (size_grow (d:=dChange (dGrow (dTick d)) (.made nm d.files.length)) (by simp [dChange,dGrow,dTick]) _ (k:=b.length) ?_ (nmPut d.now nm d.files.length) ?_) ?_
   ·simp only [flen,List.length_append];exact Nat.le_refl _
   ·refine (hp.map (·.2)).nodup_iff.2 (List.nodup_cons.2 ⟨fun hm=>?_,hok.now.ids⟩)
    obtain⟨x,hx,e⟩:=List.mem_map.1 hm
    have:=hok.now.lt x hx
    simp only at e;omega
   ·rw [sum_perm _ hp]
    simp only [List.map_cons,List.sum_cons]
    have e1:flen (dChange (dGrow (dTick d)) (.made nm d.files.length)) d.files.length=0:=by
     simp [flen,dChange,dGrow,dTick]
    have e2:d.now.map (fun y=>flen (dChange (dGrow (dTick d)) (.made nm d.files.length)) y.2)=d.now.map (fun y=>flen d y.2):=List.map_congr_left (fun y hy=>by
     have:=hok.now.lt y hy
     simp only [flen,dChange,dGrow,dTick,List.getD_eq_getElem?_getD]
     rw [List.getElem?_append_left this])
    rw [e1,e2];unfold dSize;omega
  have:=h1 h4
  refine⟨rfl,⟨tick_fail h.fail,?_,?_,hq2⟩,fun h=>absurd rfl h⟩
  ·show dSize (dWrite (dChange (dGrow (dTick d)) (.made nm d.files.length)) d.files.length b)+(B - b.length)≤d.quota
   omega
  ·rw [if_pos rfl]
   show (nmPut d.now nm d.files.length).length+_≤200
   rw [hp.length_eq,List.length_cons];omega
theorem sync_rm {d:DiskD} {B n:Nat} (hok:DiskOk d) (h:Rm d B n) {nm:ByteArray} {i:Nat} (hi:nmAt d.now nm=some i):(dSync d nm).2=0∧Rm (dSync d nm).1 B n∧(dSync d nm).1.now=d.now:=by
 rw [sync_nofail h.fail hi]
 refine⟨rfl,h.same (tick_fail h.fail) rfl ?_ (Nat.le_refl _),rfl⟩
 exact size_set (d:=dTick d) (hok.at hi) _ (Nat.le_refl _)
theorem dir_rm {d:DiskD} {B n:Nat} (h:Rm d B n):(dSyncDir d).2=0∧Rm (dSyncDir d).1 B n:=by
 rw [syncdir_nofail h.fail]
 exact⟨rfl,h.same (tick_fail h.fail) rfl (Nat.le_refl _) (Nat.le_refl _)⟩
theorem del_size (d:DiskD) (n:ByteArray):((nmDel d.now n).map (fun y=>flen d y.2)).sum≤dSize d:=sum_sub List.filter_sublist
theorem remove_rm {d:DiskD} {B n:Nat} (h:Rm d B n) {nm:ByteArray} {i:Nat} (hi:nmAt d.now nm=some i):(dRemove d nm).2=0∧Rm (dRemove d nm).1 B n:=by
 unfold dRemove
 rw [if_neg (fails_not h.fail),hi]
 exact⟨rfl,h.same (tick_fail h.fail) rfl (del_size d nm) (nmDel_len _ _)⟩
theorem rename_rm {d:DiskD} {B n:Nat} (hok:DiskOk d) (h:Rm d B n) {a b:ByteArray} {i:Nat} (hi:nmAt d.now a=some i) (hb:namedB b=true) (hab:a≠b):(dRename d a b).2=0∧Rm (dRename d a b).1 B n:=by
 unfold dRename
 rw [if_neg (fails_not h.fail),hi]
 simp only
 rw [if_neg (by simp [hb]),if_neg hab]
 have e:nmDo d.now (.ren a b)=nmDel (nmPut d.now b i) a:=by simp [nmDo,hi]
 have hdp:(nmDel (nmPut d.now b i) a).Perm ((b,i)::nmDel (nmDel d.now b) a):=by
  have:=(nmPut_perm d.now b i).filter (fun x=>decide (x.1≠a))
  unfold nmDel at this ⊢
  rwa [List.filter_cons,if_pos (by simpa using fun h=>hab h.symm)] at this
 have hdp2:d.now.Perm ((a,i)::nmDel d.now a):=by
  have hm:=nmAt_mem hi
  have hnd:d.now.Nodup:=List.Pairwise.imp (fun {a b} hl e=>by subst e;rw [nlt_irrefl] at hl;cases hl) hok.now.row
  refine (List.perm_ext_iff_of_nodup hnd ?_).2 (fun x=>?_)
  ·refine List.nodup_cons.2 ⟨fun hx=>(nmDel_mem.1 hx).2 rfl,?_⟩
   exact hnd.filter _
  ·rw [List.mem_cons,nmDel_mem]
   constructor
   ·intro hx
    by_cases ex:x.1=a
    ·left
     have:x.2=i:=nm_key (NmRow.keys hok.now.row) (n:=a) (by rw [← ex];exact hx) hm
     rw [← ex,← this]
    ·exact Or.inr ⟨hx,ex⟩
   ·rintro (rfl | ⟨hx,_⟩)
    ·exact hm
    ·exact hx
 have hsub:(nmDel (nmDel d.now b) a).Sublist (nmDel d.now a):=by
  unfold nmDel
  exact (List.filter_sublist (l:=d.now)).filter _
 refine⟨rfl,h.same (tick_fail h.fail) rfl ?_ ?_⟩
 ·show ((nmDo d.now (.ren a b)).map (fun y=>flen d y.2)).sum≤dSize d
  rw [e,sum_perm _ hdp]
  unfold dSize
  rw [sum_perm _ hdp2]
  have:=sum_sub (f:=fun y=>flen d y.2) hsub
  simp only [List.map_cons,List.sum_cons];omega
 ·show (nmDo d.now (.ren a b)).length≤d.now.length
  rw [e,hdp.length_eq,hdp2.length_eq,List.length_cons,List.length_cons]
  have:=hsub.length_le;omega
theorem clear_rm {d:DiskD} {B n:Nat} (h:Rm d B n) (nm:ByteArray):(clearD nm d).2=0∧Rm (clearD nm d).1 B n:=by
 unfold clearD
 by_cases hs:(nmAt d.now nm).isSome
 ·rw [if_pos hs]
  obtain⟨i,hi⟩:=Option.isSome_iff_exists.1 hs
  exact remove_rm h hi
 ·rw [if_neg hs];exact⟨rfl,h⟩
theorem man_len {m:ManD} (h:mayM m=true):(frBytes (manFr m)).length≤278:=by
 rw [frBytes_length]
 have:(manFr m).body=manBody m:=rfl
 rw [this,manBody_length]
 have:=(mayM_iff.1 h).1.2.2.2.1
 omega
theorem fresh_rm {d:DiskD} {B n:Nat} (hok:DiskOk d) {m:ManD} (hm:mayM m=true) (h:Rm d (B+278) (n+1)):(freshD m d).2=0∧Rm (freshD m d).1 B n:=by
 have hl:=man_len hm
 obtain⟨a1,a2⟩:=clear_rm h nmFresh
 have a3:=clear_ok hok nmFresh
 have a4:=clear_none (n:=nmFresh) hok
 have hfresh:freshD m d=thenD (thenD (thenD (clearD nmFresh d) (fun d=>dAppend d nmFresh (frBytes (manFr m)))) (fun d=>dSync d nmFresh)) (fun d=>dRename d nmFresh nmHead):=rfl
 generalize clearD nmFresh d=r1 at *
 rw [thenD_ok a1] at hfresh
 obtain⟨b1,b2,_⟩:=app_rm a3 a2 (nm:=nmFresh) (by decide) (b:=frBytes (manFr m)) (by omega) (fun _=>by omega)
 have b3:=dAppend_ok a3 nmFresh (frBytes (manFr m))
 have b4:=append_new a3 (b:=frBytes (manFr m)) (a4 a1) b1
 rw [if_pos (a4 a1)] at b2
 generalize dAppend r1.1 nmFresh (frBytes (manFr m))=r2 at *
 rw [thenD_ok b1] at hfresh
 obtain⟨i,i1,_,_⟩:=b4
 obtain⟨c1,c2,c4⟩:=sync_rm b3 b2 i1
 have c3:=dSync_ok b3 nmFresh
 generalize dSync r2.1 nmFresh=r3 at *
 rw [thenD_ok c1] at hfresh
 rw [hfresh]
 obtain⟨e1,e2⟩:=rename_rm c3 c2 (a:=nmFresh) (b:=nmHead) (i:=i) (by rw [c4];exact i1) (by decide) (fun e=>head_fresh e.symm)
 exact⟨e1,e2.le (by omega) (by omega)⟩
theorem commit_rm {d:DiskD} {B n:Nat} (hok:DiskOk d) {m:ManD} (hm:mayM m=true) (h:Rm d (B+278) (n+1)):(commitD m d).2.1=true∧(commitD m d).2.2=0∧Rm (commitD m d).1 B n:=by
 obtain⟨a1,a2⟩:=fresh_rm hok hm h
 unfold commitD
 rw [if_neg (by simp [hm]),if_neg (by simp [a1])]
 obtain⟨b1,b2⟩:=dir_rm a2
 exact⟨rfl,b1,b2⟩
theorem seg_named {s:Nat} (h:1≤s∧s < 1000000):namedB (segName s)=true:=by
 unfold namedB;rw [segName_size7 h];rfl
theorem begin_rm {d:DiskD} {B n s:Nat} (hok:DiskOk d) (hs:1≤s∧s < 1000000) (h:Rm d B (n+1)):(beginD s d).2=0∧Rm (beginD s d).1 B n∧DiskOk (beginD s d).1∧FileAt (beginD s d).1.now (beginD s d).1.files (segName s) [] 0:=by
 obtain⟨a1,a2⟩:=clear_rm h (segName s)
 have a3:=clear_ok hok (segName s)
 have a4:=clear_none (n:=segName s) hok
 have hb:beginD s d=thenD (clearD (segName s) d) (fun d=>dAppend d (segName s) []):=rfl
 generalize clearD (segName s) d=r1 at *
 rw [thenD_ok a1] at hb
 obtain⟨b1,b2,_⟩:=app_rm a3 a2 (seg_named hs) (b:=[]) (by simp) (fun _=>by omega)
 rw [if_pos (a4 a1)] at b2
 rw [hb]
 exact⟨b1,b2.le (by simp) (by omega),dAppend_ok a3 _ _,append_new a3 (a4 a1) b1⟩
theorem turn_rm {d:DiskD} {l:LogD} {Fr:List FrD} {s B n:Nat} (h:Firm d l.m Fr s) (hr:Rm d (B+278) (n+2)) (hs:l.m.segs.length < 64) (hn:l.m.next < 1000000) :
  (turnL (d,l)).2=0∧Rm (turnL (d,l)).1.1 B n∧(turnL (d,l)).1.2.m=turnM l:=by
 obtain⟨_,hm1⟩:=mayM_iff.1 h.now.1
 have hn1:=(mayM_iff.1 h.now.1).1.2.2.2.2.1
 have hmt:mayM (turnM l)=true:=by
  obtain⟨⟨v1,v2,s1,s2,n1,n2⟩,hu⟩:=mayM_iff.1 h.now.1
  refine mayM_iff.2 ⟨⟨v1,v2,by simp [turnM],by simp [turnM];omega,by simp [turnM],by simp [turnM];omega⟩,?_⟩
  refine upB_of ?_ (fun x hx=>?_)
  ·refine List.pairwise_append.2 ⟨mayM_pair h.now.1,List.pairwise_singleton _ _,fun a ha b hb=>?_⟩
   simp at hb;subst hb
   exact (mayM_seg h.now.1 ha).2.1
  ·rcases List.mem_append.1 hx with hx | hx
   ·have:=mayM_seg h.now.1 hx;exact⟨by omega,by simp [turnM];omega⟩
   ·simp at hx;subst hx;exact⟨by omega,by simp [turnM]⟩
 unfold turnL
 simp only
 rw [if_neg (by omega)]
 have e1:onDisk (fun d=>dSync d (lastS l)) (d,l)=(((dSync d (lastS l)).1,l),(dSync d (lastS l)).2):=rfl
 rw [e1]
 obtain⟨C,L,k,g1,rfl,g3⟩:=h.now.2.2
 obtain⟨i,i1,_,_⟩:=g1.last
 rw [← lastS_eq g1.len] at i1
 obtain⟨a1,a2,a3⟩:=sync_rm h.ok hr i1
 have a4:=dSync_ok h.ok (lastS l)
 generalize dSync d (lastS l)=r1 at *
 have a1':(((r1.1,l),r1.2):DL×Int).2=0:=a1
 rw [thenD_ok a1']
 have e2:onDisk (beginD l.m.next) (r1.1,l)=(((beginD l.m.next r1.1).1,l),(beginD l.m.next r1.1).2):=rfl
 rw [e2]
 obtain⟨b1,b2,b3,b4⟩:=begin_rm a4 ⟨hn1,hn⟩ (n:=n+1) a2
 generalize beginD l.m.next r1.1=r2 at *
 have b1':(((r2.1,l),r2.2):DL×Int).2=0:=b1
 rw [thenD_ok b1']
 have e3:onDisk (fun d=>dSync d (segName l.m.next)) (r2.1,l)=(((dSync r2.1 (segName l.m.next)).1,l),(dSync r2.1 (segName l.m.next)).2):=rfl
 rw [e3]
 obtain⟨j,j1,_,_⟩:=b4
 obtain⟨c1,c2,c3⟩:=sync_rm b3 b2 j1
 have c4:=dSync_ok b3 (segName l.m.next)
 generalize dSync r2.1 (segName l.m.next)=r3 at *
 have c1':(((r3.1,l),r3.2):DL×Int).2=0:=c1
 rw [thenD_ok c1']
 obtain⟨d1,d2,d3⟩:=commit_rm c4 hmt c2
 unfold adoptL
 simp only
 rw [if_pos d1]
 exact⟨d2,d3,rfl⟩
theorem append_rm {d:DiskD} {l:LogD} {Fr:List FrD} {s B n:Nat} (h:Firm d l.m Fr s) (hl:l.loose=false) (kind:Int) (body:List UInt8) (hr:Rm d (B+278+(16+body.length)) (n+2)) (hs:l.m.segs.length < 64) (hn:l.m.next < 1000000) (hp:putErr kind l.m.ver body.length=0) :
  (appendL kind body (d,l)).2=0∧Rm (appendL kind body (d,l)).1.1 B n∧(appendL kind body (d,l)).1.2.m.segs.length≤l.m.segs.length+1∧(appendL kind body (d,l)).1.2.m.next≤l.m.next+1:=by
 have hset:settleL (d,l)=((d,l),0):=by unfold settleL;simp [hl]
 unfold appendL
 simp only
 rw [if_neg (by simp [hp]),hset,thenD_ok (r:=((d,l),(0:Int))) rfl]
 simp only
 have hfl:(frBytes ⟨kind.toNat,l.m.ver,body⟩).length=16+body.length:=frBytes_length _
 generalize hgen:(if fitsL l (bytesD d (lastS l)) (frBytes ⟨kind.toNat,l.m.ver,body⟩).length=true then ((d,l),(0:Int)) else turnL (d,l))=r2
 have h5:r2.2=0∧Rm r2.1.1 (B+(16+body.length)) n∧r2.1.2.m.segs.length≤l.m.segs.length+1∧r2.1.2.m.next≤l.m.next+1∧r2.1.2.m.ver=l.m.ver∧∃ Fr' s',Firm r2.1.1 r2.1.2.m Fr' s':=by
  rw [← hgen]
  split
  ·exact⟨rfl,hr.le (by omega) (by omega),by simp only;omega,by simp only;omega,rfl,Fr,s,h⟩
  ·obtain⟨t1,t2,t3⟩:=turn_rm (B:=B+(16+body.length)) (n:=n) h (by rw [show B+(16+body.length)+278=B+278+(16+body.length) by omega];exact hr) hs hn
   obtain⟨_,u2,u3⟩:=turn_inv h hl
   refine⟨t1,t2,by rw [t3];simp [turnM],by rw [t3];simp [turnM],u2,?_⟩
   rcases u3 with ⟨_,_,u6⟩|⟨u4,_⟩
   ·exact⟨_,_,u6⟩
   ·exact absurd t1 u4
 clear hgen
 obtain⟨h6,h7,h8,h9,h10,Fr',s',h11⟩:=h5
 rw [thenD_ok h6]
 unfold onDisk
 simp only
 obtain⟨C,L,k,g1,_,g3⟩:=h11.now.2.2
 obtain⟨i,i1,_,_⟩:=g1.last
 rw [← lastS_eq g1.len] at i1
 have hsn:namedB (lastS r2.1.2)=true:=by
  rw [lastS_eq g1.len]
  exact seg_named (h11.valid _ (getD_memN (by rw [g1.len];omega)))
 obtain⟨w1,w2,_⟩:=app_rm h11.ok h7 hsn (b:=frBytes ⟨kind.toNat,l.m.ver,body⟩) (by rw [hfl];omega) (fun e=>by rw [i1] at e;cases e)
 rw [if_neg (by rw [i1];simp)] at w2
 exact⟨w1,w2.le (by rw [hfl];omega) (Nat.le_refl _),h8,h9⟩
/-! A new log. -/
theorem commit_new {d:DiskD} {m:ManD} {Fr:List FrD} {s:Nat} (hok:DiskOk d) (h':HoldsS d.now d.files m.segs m.ver Fr s) (h0:(commitD m d).2.2=0) (hc:(commitD m d).2.1=true):Firm (commitD m d).1 m Fr s:=by
 unfold commitD at h0 hc ⊢
 by_cases hm:mayM m=false
 ·rw [if_pos hm] at hc;cases hc
 have hm':mayM m=true:=by simpa using hm
 rw [if_neg hm] at h0 hc ⊢
 have nf:¬ (fun n=>n≠nmFresh) nmFresh:=fun h=>h rfl
 have hk:∀ (segs:List Nat) n,Mine segs n→n≠nmFresh:=fun segs n hn e=>mine_fresh (e ▸ hn)
 have o1:=clear_other (K:=fun n=>n≠nmFresh) hok nf
 have k1:=clear_ok hok nmFresh
 have n1:=clear_none (n:=nmFresh) hok
 have hfresh:freshD m d=thenD (thenD (thenD (clearD nmFresh d) (fun d=>dAppend d nmFresh (frBytes (manFr m)))) (fun d=>dSync d nmFresh)) (fun d=>dRename d nmFresh nmHead):=rfl
 by_cases hz:(freshD m d).2≠0
 ·rw [if_pos hz] at hc;cases hc
 rw [if_neg hz] at h0 ⊢
 simp only at h0 ⊢
 generalize clearD nmFresh d=r1 at *
 by_cases e1:r1.2=0
 case neg=>rw [thenD_err e1,thenD_err e1,thenD_err e1] at hfresh;rw [hfresh] at hz;exact absurd e1 hz
 rw [thenD_ok e1] at hfresh
 have o2:=o1.trans (Other.append (K:=fun n=>n≠nmFresh) k1 nf (frBytes (manFr m)))
 have k2:=dAppend_ok k1 nmFresh (frBytes (manFr m))
 have n2:=append_new k1 (b:=frBytes (manFr m)) (n1 e1)
 generalize dAppend r1.1 nmFresh (frBytes (manFr m))=r2 at *
 by_cases e2:r2.2=0
 case neg=>rw [thenD_err e2,thenD_err e2] at hfresh;rw [hfresh] at hz;exact absurd e2 hz
 rw [thenD_ok e2] at hfresh
 have o3:=o2.trans (Other.sync (K:=fun n=>n≠nmFresh) k2 nf)
 have k3:=dSync_ok k2 nmFresh
 have n3:=sync_at k2 (n2 e2)
 generalize dSync r2.1 nmFresh=r3 at *
 by_cases e3:r3.2=0
 case neg=>rw [thenD_err e3] at hfresh;rw [hfresh] at hz;exact absurd e3 hz
 rw [thenD_ok e3] at hfresh
 have g3:HoldsS r3.1.now r3.1.files m.segs m.ver Fr s:=h'.congr (fun n hn=>o3.names n (hk _ n hn)) (fun n i hn hi=>o3.files n i (hk _ n hn) hi)
 obtain⟨x,x1,x2,x3⟩:=n3 e3
 rcases dRename_cases r3.1 nmFresh nmHead with ⟨e,h4,he⟩|⟨_,_,_,⟨h4,_⟩|⟨_,h4⟩⟩
 ·rw [h4] at hfresh;rw [hfresh] at hz;simp only at hz;omega
 ·exact absurd h4.symm head_fresh
 ·have k4:=dRename_ok k3 nmFresh nmHead
  rw [h4] at hfresh k4
  rw [hfresh] at h0 ⊢
  simp only at k4 h0 ⊢
  have hat:∀ n,n≠nmFresh→nmAt (dChange (dTick r3.1) (.ren nmFresh nmHead)).now n=if n=nmHead then some x else nmAt r3.1.now n:=fun n hn=>by
   show nmAt (nmDo r3.1.now (.ren nmFresh nmHead)) n=_
   have e:nmDo r3.1.now (.ren nmFresh nmHead)=nmDel (nmPut r3.1.now nmHead x) nmFresh:=by simp only [nmDo,x1]
   rw [e,nmAt_del (nmPut_row k3.now.row _ _),if_neg hn,nmAt_put k3.now.row]
  have hnow:Holds (dChange (dTick r3.1) (.ren nmFresh nmHead)).now (dChange (dTick r3.1) (.ren nmFresh nmHead)).files m Fr s:=by
   refine⟨hm',⟨x,by rw [hat _ head_fresh,if_pos rfl],x2,x3⟩,?_⟩
   obtain⟨C,L,k,c1,c2,c3⟩:=g3
   have hsn:∀ i,nmAt (dChange (dTick r3.1) (.ren nmFresh nmHead)).now (segName i)=nmAt r3.1.now (segName i):=fun i=>by
    rw [hat _ (segName_fresh _),if_neg (segName_head _)]
   exact⟨C,L,k,⟨c1.len,fun i hi=>(c1.closed i hi).congr (hsn _) (fun _ _=>rfl),c1.last.congr (hsn _) (fun _ _=>rfl),c1.few,c1.ok⟩,c2,c3⟩
  rcases dSyncDir_cases (dChange (dTick r3.1) (.ren nmFresh nmHead)) with h6 | ⟨_,h6⟩
  ·rw [h6] at h0;simp at h0
  ·rw [h6];exact firm_of (dTick_ok k4) hnow
theorem create_rm {d:DiskD} {B n:Nat} (hok:DiskOk d) (hr:Rm d (B+278) (n+2)) (hh:nmAt d.now nmHead=none) {v:Nat} (hv:1≤v∧v≤3) (size:Int) :
  ∃ d',createD v size d=(d',some ⟨sized size,firstM v,false⟩,0)∧Firm d' (firstM v) [] 0∧Rm d' B n:=by
 have hmt:mayM (firstM v)=true:=by
  refine mayM_iff.2 ⟨⟨hv.1,hv.2,by simp [firstM],by simp [firstM],by simp [firstM],by simp [firstM]⟩,?_⟩
  simp [firstM,upB]
 obtain⟨b1,b2,b3,b4⟩:=begin_rm hok (s:=1) (by omega) (n:=n+1) hr
 have b4':=b4
 obtain⟨j,j1,_,_⟩:=b4'
 obtain⟨c1,c2,c3⟩:=sync_rm b3 b2 j1
 have c4:=dSync_ok b3 (segName 1)
 have c5:=sync_at b3 b4 c1
 obtain⟨d1,d2,d3⟩:=commit_rm c4 hmt c2
 have hF:=commit_new (m:=firstM v) (Fr:=[]) (s:=0) c4 ⟨[],[],0,⟨rfl,fun i hi=>by simp at hi,c5,Nat.le_refl _,by simp⟩,by simp,by simp⟩ d2 d1
 refine⟨_,?_,hF,d3⟩
 unfold createD
 rw [if_neg (by omega),hh]
 simp only [Option.isSome_none,Bool.false_eq_true,if_false,Int.toNat_natCast]
 rw [thenD_ok (r:=beginD 1 d) b1,thenD_ok (r:=dSync (beginD 1 d).1 (segName 1)) c1]
 simp only
 rw [if_neg (by rw [d2];simp)]
end Go.Proofs.YtpmmiljakbojaaaGreat
