/- Merged texts. -/
import Derived.Test.YtkhbpebpljdifaaGreatDoorMPra
import Derived.Lib.Strings
import Derived.Lib.Walk
import Derived.Lib.ConvBytes
import Derived.Lib.ParseIntBMem
import Derived.Lib.AtoiErrMem
import Derived.Lib.BufferWrite
import Derived.Lib.UnsafeStr
import Derived.Lib.IfaceEq
import Derived.Laws.MakeOwn
import Derived.Laws.Strings3
import Derived.Laws.Closers25
import Derived.Laws.Closers25b
import Derived.RegionTactic
import Derived.Deep.RegionWith
import Derived.BigCall
import Derived.BigGuard
import Derived.Lib.AppendIntMem
import Derived.Carry
import Derived.OrdersHeld
import Derived.Deep.RegionHeld3
set_option maxRecDepth 100000
set_option maxHeartbeats 25600000
namespace Go.Proofs.YtkhbpebpljdifaaGreatDoor
open Go.RowKit Go.PL Go.Maps Go.Shelf
theorem ext_of {w w':World} (h:Below w.heap.size w w'):Upto [] w w':=Upto.of_below h
theorem parse_digits:∀(l:List UInt8) (acc:Nat),(∀x∈l,kHz x=true)→acc≤2147483647 →
  Go.Lib.parseUintM 2147483647 acc l=if acc*10 ^ l.length+kQw l≤2147483647 then .ok (acc*10 ^ l.length+kQw l) else .range
 | [],acc,_,h=>by simp [Go.Lib.parseUintM,kQw,h]
 | c::l,acc,hd,h=>by
  have hc:=hd c (by simp)
  simp only [kHz,Bool.and_eq_true,decide_eq_true_eq] at hc
  have h1:¬1844674407370955162≤acc:=by omega
  have e:acc*10 ^ (l.length+1)+kQw (c::l)=(acc*10+(c.toNat-48))*10 ^ l.length+kQw l:=by
   rw [lxNum_cons,Nat.pow_succ,Nat.add_mul,Nat.mul_comm (10 ^ l.length) 10,Nat.mul_assoc]
   omega
  rw [Go.Lib.parseUintM,if_pos hc,if_neg h1,List.length_cons,e]
  by_cases hov:2147483647<acc*10+(c.toNat-48)
  ·rw [if_pos hov,if_neg]
   have hp:1≤10 ^ l.length:=Nat.pos_of_ne_zero (by simp)
   have:(acc*10+(c.toNat-48))*1≤(acc*10+(c.toNat-48))*10 ^ l.length:=Nat.mul_le_mul_left _ hp
   omega
  ·rw [if_neg hov,parse_digits l _ (fun x hx=>hd x (by simp [hx])) (by omega)]
theorem parse96 (t:ByteArray) (hne:t.size≠0) (hmax:t.size≤9223372036854775806) (hdg:∀x∈t.data.toList,kHz x=true) (w:World) :
  Calls Tryz.prog 154 #[.string t,.int .i64 10,.int .i64 31] w fun e w'=>e=.returned (Lib.uintTupleM 201 2147483647 (Lib.parseUintM 2147483647 0 t.data.toList))∧w'=Lib.bytesWorld w 5 t:=by
 have hemp:t.toList.isEmpty=false:=by
  rw [←decide_eq_emptyBytes]
  exact decide_eq_false (fun h=>hne (by rw [h];rfl))
 have hcv:=Lib.run_convert_string_bytes (P:=Tryz.prog) w 9 115 5 t (u:=.string) Tryz.underlying9 Tryz.underlying115 Tryz.underlying5
 have hB:∀j,j<t.size→(Lib.bytesWorld w 5 t).cell? ⟨w.heap.size,j,none⟩=some (.int .u8 (t.data.toList.getD j 0).toNat):=fun j hj=>Lib.bytesWorld_cell w 5 t j hj
 obtain⟨W1,hW1⟩:∃W1,W1=Lib.bytesWorld w 5 t:=⟨_,rfl⟩
 rw [←hW1] at hcv hB ⊢
 clear hW1
 obtain⟨bs,hL⟩:∃bs,bs=t.data.toList:=⟨_,rfl⟩
 have hLn:bs.length=t.size:=by rw [hL,Lib.size_eq]
 rw [←hL] at hB hdg ⊢
 clear hL
 have hmv:IntKind.u64.wrap (IntKind.u64.wrap 2147483648-1)=2147483647:=by
  rw [IntKind.wrap_u64,IntKind.wrap_u64]
  decide
 have HDG:=Lib.hid hdg
 clear hdg
 go_enter Tryz.func154,Tryz.ntmps154
 go_wp2
 go_loop [12,13,101] (fun vu vn vi=>∃(k acc:Nat) (a:Int),vu=.bool false∧vn=.int .u64 a∧vi=.int .i64 k∧k≤t.size∧Hid (a=(acc:Int)∧acc≤2147483647∧Lib.parseUintM 2147483647 0 bs=Lib.parseUintM 2147483647 acc (bs.drop k)))
  (fun _ _ vi=>t.size-(intOf vi).toNat)
 case atStart=>exact⟨0,0,0,rfl,rfl,rfl,by omega,Lib.hid ⟨rfl,by omega,rfl⟩⟩
 case round =>
  obtain⟨k,acc,a,rfl,rfl,rfl,hk,hh⟩:=hrel
  obtain⟨ha,hacc,hdec⟩:=hh.out
  clear hh
  have a0:0≤a:=by omega
  have a1:a≤2147483647:=by omega
  by_cases hkn:k<t.size
  ·have hc:=hB k hkn
   have hdrop:bs.drop k=bs[k]'(by omega)::bs.drop (k+1):=List.drop_eq_getElem_cons (by omega)
   have hget:bs.getD k 0=bs[k]'(by omega):=by simp [List.getD,List.getElem?_eq_getElem (show k<bs.length by omega)]
   have hdig:=HDG.out _ (List.getElem_mem (show k<bs.length by omega))
   rw [hdrop] at hdec
   rw [hget] at hc
   generalize bs[k]'(by omega)=c at hc hdec hdig
   simp only [kHz,Bool.and_eq_true,decide_eq_true_eq] at hdig
   have hc256:c.toNat<256:=c.toNat_lt
   clear hB hdrop hget
   obtain⟨hd0,hd1⟩:=hdig
   have hcut:¬1844674407370955162≤acc:=by omega
   by_cases hov:2147483647<acc*10+(c.toNat-48)
   ·have hF:Lib.parseUintM 2147483647 acc (c::bs.drop (k+1))=.range:=by simp [Lib.parseUintM,hd0,hd1,hcut,hov]
    rw [hF] at hdec
    have iov:2147483647<a*10+((c.toNat:Int)-48):=by omega
    clear hcut hacc hF hov ha
    go_wp2
    go_ret2
    exact⟨rfl,rfl⟩
   ·have hF:Lib.parseUintM 2147483647 acc (c::bs.drop (k+1))=Lib.parseUintM 2147483647 (acc*10+(c.toNat-48)) (bs.drop (k+1)):=by simp [Lib.parseUintM,hd0,hd1,hcut,hov]
    have HN:Hid (a*10+((c.toNat:Int)-48)=((acc*10+(c.toNat-48):Nat):Int)∧acc*10+(c.toNat-48)≤2147483647∧Lib.parseUintM 2147483647 0 bs=Lib.parseUintM 2147483647 (acc*10+(c.toNat-48)) (bs.drop (k+1))):=Lib.hid ⟨by omega,by omega,hdec.trans hF⟩
    have iov:a*10+((c.toNat:Int)-48)≤2147483647:=by omega
    clear hcut hacc hF hov hdec ha
    go_wp2
    refine⟨⟨k+1,acc*10+(c.toNat-48),a*10+((c.toNat:Int)-48),rfl,(by first | rfl | (congr 1;omega)),(by first | rfl | (congr 1;omega)),by omega,HN⟩,by simp [intOf];omega⟩
  ·have hkk:k=t.size:=by omega
   subst hkk
   have hF:Lib.parseUintM 2147483647 acc (bs.drop t.size)=.ok acc:=by rw [List.drop_eq_nil_of_le (by omega)];rfl
   rw [hF] at hdec
   subst ha
   clear hacc hF a0 a1
   go_wp2
   go_ret2
   exact⟨rfl,rfl⟩
theorem clone_calls (s:ByteArray) (w:World) (h0:s.size≠0) (hlim:s.size≤281474976710656) :
  Calls Tryz.prog 190 #[.string s] w fun e w'=>e=.returned (.string s)∧Below w.heap.size w w':=by
 obtain⟨i0,hi,hz0,hz1,hz2⟩:=info_parts (show (Tryz.prog.info? 5).map (fun i=>(i.zero,i.size,i.bytes))=some (some (.int .u8 0),1,1) by kernel_rfl)
 have hinfo:(Tryz.prog.info? 5).map (·.size)=some 1:=by rw [hi];simp [hz1]
 have hco:Tryz.prog.cellsOf 5=1:=by simp [Program.cellsOf,hi,hz1]
 obtain⟨M,hM⟩:∃M,M=madeCells (Value.int .u8 0).cells (((s.size:Nat):Int).toNat*i0.size):=⟨_,rfl⟩
 have hMs:M.size=s.size:=by rw [hM,size_madeCells,hz1];simp
 have hmk:∀W:World,(Instr.makeSlice 115 (.int .i64 (s.size:Int)) (.int .i64 (s.size:Int))).run Tryz.prog W=.ok (.slice (some ⟨W.heap.size,0,none⟩) s.size s.size) (W.alloc (.cells M 5)):=fun W=>by
  have h:=run_make (P:=Tryz.prog) W 115 5 i0 (.int .u8 0) Tryz.underlying115 hi hz0 .i64 .i64 (s.size:Int) (s.size:Int) (by omega) (by omega) (by rw [hz2];omega) (by omega)
  rw [←hM] at h
  simpa using h
 clear hM
 have hcp:=Lib.run_copy_row_string (P:=Tryz.prog) (w.alloc (.cells M 5)) 115 9 3 5 w.heap.size 0 s.size s.size s M 5 Tryz.underlying115 hinfo (heap_alloc_new w _) (Nat.le_refl _) (by omega)
 obtain⟨Y,hY⟩:∃Y,Y=(M.toList.take 0++Lib.byteCells s.data.toList++M.toList.drop (0+s.size)).toArray:=⟨_,rfl⟩
 rw [←hY] at hcp
 have hYl:Y.toList=Lib.byteCells s.data.toList:=by
  rw [hY,List.toList_toArray,List.take_zero,List.nil_append,List.drop_of_length_le (by rw [Array.length_toList];omega),List.append_nil]
 have hYs:Y.size=s.size:=by rw [←Array.length_toList,hYl,Lib.byteCells_length,←Lib.size_eq]
 have hgY:((w.alloc (.cells M 5)).setRow w.heap.size Y).heap[w.heap.size]?=some (.cells Y 5 (0,0)):=setRow_heap _ _ M _ 5 (0,0) (heap_alloc_new w _)
 have hne:s.data.toList≠[]:=fun e=>h0 (by rw [Lib.size_eq,e];rfl)
 have hUS:=Lib.run_unsafeString_row (P:=Tryz.prog) ((w.alloc (.cells M 5)).setRow w.heap.size Y) 154 3 9 5 Tryz.underlying154 hco w.heap.size Y.size (by unfold World.shape?;rw [hgY]) s.data.toList hne (by rw [←Lib.size_eq];omega) (by rw [←Lib.size_eq];omega)
  (fun j x hx=>Lib.cells_of_row hgY Y.size j _ (by rw [List.take_of_length_le (by rw [Array.length_toList];exact Nat.le_refl _),hYl];simp [Lib.byteCells,hx]))
 rw [←Lib.size_eq] at hUS
 clear hY
 go_enter Tryz.func190,Tryz.ntmps190
 go_wp2
 go_ret
 have hb1:Below w.heap.size w (w.alloc (.cells M 5)):=(Below.refl _ w).alloc (Nat.le_refl _) _
 have hb2:Below w.heap.size (w.alloc (.cells M 5)) ((w.alloc (.cells M 5)).setRow w.heap.size Y):=⟨rfl,rfl,rfl,by simp,fun k hk=>setRow_other _ _ _ _ (by omega)⟩
 exact⟨rfl,Lib.below_freeze (hb1.trans hb2) (p:=⟨w.heap.size,0,none⟩) (Nat.le_refl _) _⟩
theorem range_calls (fn s:ByteArray) (te:TypeId) (pe:Value) (w:World) (h0:s.size≠0) (hlim:s.size≤281474976710656) (hv:w.cell? ⟨8,0,none⟩=some (.iface te pe)) :
  Calls Tryz.prog 167 #[.string fn,.string s] w fun e w'=>∃N,e=.returned (.pointer (some ⟨N,0,none⟩))∧Below w.heap.size w w':=by
 have hG:8<w.heap.size:=Lib.lt_of_cell hv
 have hvd:w.drew.cell? ⟨8,0,none⟩=some (.iface te pe):=hv
 go_enter Tryz.func167,Tryz.ntmps167
 go_wp2
 go_region_with (
   go_at_call 190
   refine (clone_calls s _ h0 hlim).mono ?_
   rintro e w2 ⟨rfl,hbel⟩
   have hv2:w2.cell? ⟨8,0,none⟩=some (.iface te pe):=(hbel.cell (show (⟨8,0,none⟩:Addr).block<w.drew.heap.size from hG)).trans hvd)
 all_goals (
  go_wp2
  go_ret
  have hs2:w.heap.size≤w2.heap.size:=hbel.size
  exact⟨_,rfl,((Below.drew (Below.refl _ w)).trans hbel).alloc hs2 _⟩)
theorem toErr_calls (fn s:ByteArray) (base bits:Int) (te:TypeId) (pe:Value) (w:World) (h0:s.size≠0) (hlim:s.size≤281474976710656) (hv:w.cell? ⟨8,0,none⟩=some (.iface te pe)) :
  Calls Tryz.prog 155 #[.string fn,.string s,.int .i64 base,.int .i64 bits,.iface 201 (.int .i64 1)] w fun e w'=>∃N,e=.returned (.iface 203 (.pointer (some ⟨N,0,none⟩)))∧Below w.heap.size w w':=by
 have hq12:∀W,(binOp .eql 119 (.iface 201 (.int .i64 1)) (.iface 201 (.int .i64 2))).run Tryz.prog W=.ok (.bool false) W:=fun W=>Lib.run_eql_iface_int W 1 2 Tryz.underlying119 (by kernel_rfl) Tryz.underlying201
 have hq11:∀W,(binOp .eql 119 (.iface 201 (.int .i64 1)) (.iface 201 (.int .i64 1))).run Tryz.prog W=.ok (.bool true) W:=fun W=>Lib.run_eql_iface_int W 1 1 Tryz.underlying119 (by kernel_rfl) Tryz.underlying201
 have HR:=Lib.hid (range_calls fn s te pe w h0 hlim hv)
 clear hv
 go_enter Tryz.func155,Tryz.ntmps155
 go_wp2_with fail
 refine HR.out.mono ?_
 rintro e w2 ⟨N,rfl,h3⟩
 clear hq12 hq11
 go_wp2
 go_ret
 exact⟨N,rfl,h3⟩
theorem parse86 (s:List UInt8) (hs:s≠[]) (hl:s.length≤281474976710656) (hdg:∀x∈s,kHz x=true) (te:TypeId) (pe:Value) (w:World) (hv:w.cell? ⟨8,0,none⟩=some (.iface te pe)) :
  Calls Tryz.prog 140 #[.string ⟨s.toArray⟩,.int .i64 10,.int .i64 31] w fun e w'=>Upto [] w w'∧((kQw s≤2147483647∧e=.returned (.tuple #[.int .u64 (kQw s:Nat),.nilIface]))∨(2147483647<kQw s∧∃N,e=.returned (.tuple #[.int .u64 2147483647,.iface 203 (.pointer (some ⟨N,0,none⟩))]))):=by
 have hsz:(ByteArray.mk s.toArray).size=s.length:=rfl
 have hl0:s.length≠0:=fun h=>hs (List.eq_nil_of_length_eq_zero h)
 have H:=parse96 ⟨s.toArray⟩ hl0 (by rw [hsz];omega) hdg w
 have hb:=ext_of (Lib.bytesWorld_below w 5 ⟨s.toArray⟩)
 rw [parse_digits _ 0 hdg (by omega),Nat.zero_mul,Nat.zero_add] at H
 generalize Lib.bytesWorld w 5 ⟨s.toArray⟩=W1 at *
 have hv1:W1.cell? ⟨8,0,none⟩=some (.iface te pe):=(hb.cell (World.block_lt_of_cell? w _ hv) (by simp)).trans hv
 clear hdg hsz
 by_cases hn:kQw s≤2147483647
 ·rw [if_pos hn] at H
  simp only [Lib.uintTupleM] at H
  have HH:=Lib.hid H
  clear H hv hv1
  go_enter Tryz.func140,Tryz.ntmps140
  go_wp2_with fail
  refine HH.out.mono ?_
  rintro e w1 ⟨rfl,rfl⟩
  go_wp2
  go_ret2
  exact⟨hb,Or.inl ⟨hn,rfl⟩⟩
 ·rw [if_neg hn] at H
  simp only [Lib.uintTupleM] at H
  have HH:=Lib.hid H
  have HT:=Lib.hid (toErr_calls ⟨#[80,97,114,115,101,85,105,110,116]⟩ ⟨s.toArray⟩ 10 31 te pe W1 hl0 (show s.length≤_ from hl) hv1)
  clear H hv hv1
  go_enter Tryz.func140,Tryz.ntmps140
  go_wp2_with fail
  refine HH.out.mono ?_
  rintro e w1 ⟨rfl,rfl⟩
  go_wp2_with fail
  refine HT.out.mono ?_
  rintro e w2 ⟨N,rfl,h3⟩
  go_wp2
  go_ret2
  exact⟨hb.trans_ext (ext_of h3),Or.inr ⟨by omega,N,rfl⟩⟩
end Go.Proofs.YtkhbpebpljdifaaGreatDoor
namespace Go.Proofs.YtkhbpebpljdifaaGreatDoor
open Go.RowKit Go.PL Go.Maps
def numF (s:List UInt8):Nat×Nat :=
 if !(s.all kHz)||(decide (1<s.length)&&decide ((s.headD 0).toNat=48)) then (0,3)
 else if 2147483647<kQw s then (0,2) else (kQw s,0)
theorem take_all {p:UInt8→Bool} {s:List UInt8} (h:s.all p=true):s.takeWhile p=s:=by
 induction s with
 | nil=>rfl
 | cons b s ih =>
  simp only [List.all_cons,Bool.and_eq_true] at h
  rw [List.takeWhile_cons,if_pos h.1,ih h.2]
theorem take_not {p:UInt8→Bool} {s:List UInt8} (h:s.all p=false):(s.takeWhile p).length<s.length:=by
 induction s with
 | nil=>simp at h
 | cons b s ih =>
  rw [List.takeWhile_cons]
  cases hb:p b with
  | true =>
   rw [List.all_cons,hb,Bool.true_and] at h
   have:=ih h
   simp
   omega
  | false=>simp
theorem lxNum_append (a b:List UInt8):kQw (a++b)=kQw a*10 ^ b.length+kQw b:=by
 show (a++b).foldl _ 0=_
 rw [List.foldl_append,lxNum_fold]
 rfl
theorem lxNum_take_le (s:List UInt8) (k:Nat):kQw (s.take k)≤kQw s:=by
 have h:=lxNum_append (s.take k) (s.drop k)
 rw [List.take_append_drop] at h
 rw [h]
 have hp:1≤10 ^ (s.drop k).length:=Nat.pos_of_ne_zero (by simp)
 have:kQw (s.take k)*1≤kQw (s.take k)*10 ^ (s.drop k).length:=Nat.mul_le_mul_left _ hp
 omega
theorem lxNum_snoc {s:List UInt8} {k:Nat} {x:UInt8} (h:s[k]?=some x):kQw (s.take (k+1))=10*kQw (s.take k)+(x.toNat-48):=by
 obtain⟨h1,h2⟩:=List.getElem?_eq_some_iff.1 h
 rw [List.take_succ_eq_append_getElem h1,h2,lxNum_append]
 simp [kQw]
 omega
theorem take_snoc' {s:List UInt8} {k:Nat} {x:UInt8} (h:s[k]?=some x):s.take (k+1)=s.take k++[x]:=by
 obtain⟨h1,h2⟩:=List.getElem?_eq_some_iff.1 h
 rw [List.take_succ_eq_append_getElem h1,h2]
theorem digit_bounds {x:UInt8} (h:kHz x=true):48≤x.toNat∧x.toNat≤57:=by simpa [kHz] using h
theorem all_at {p:UInt8→Bool} {s:List UInt8} (h:s.all p=true) {k:Nat} {x:UInt8} (hx:s[k]?=some x):p x=true:=List.all_eq_true.1 h x (List.mem_of_getElem? hx)
structure Env (w:World):Prop where
 tab:Lib.TabIs Tryz.prog w "strings.asciiSpace" .u8 Lib.asciiSpaceTab
 rng:∃te pe,w.cell? ⟨8,0,none⟩=some (.iface te pe)
theorem Env.ext {w w':World} (h:Env w) (hu:Upto [] w w'):Env w':=by
 obtain⟨te,pe,hr⟩:=h.rng
 refine⟨?_,⟨te,pe,(hu.cell (World.block_lt_of_cell? w _ hr) (by simp)).trans hr⟩⟩
 exact Lib.tabBelow_of_tabIs h.tab w' hu.ext
theorem number_calls (b:UInt8) (t:List UInt8) (w:World) (hl:(b::t).length≤281474976710656) (he:Env w) :
  Calls Tryz.prog 119 #[.string ⟨(b::t).toArray⟩] w fun e w'=>e=.returned (.tuple #[.int .i64 (numF (b::t)).1,.int .i64 (numF (b::t)).2])∧Upto [] w w':=by
 have HC:=Lib.hid (cut_calls 118 kHz (kMq Tryz.func118 (by kernel_rfl) rfl) digit_calls (b::t) (by omega))
 obtain⟨te,pe,hr⟩:=he.rng
 have hsz:(ByteArray.mk (b::t).toArray).size=(b::t).length:=rfl
 have hF:=Lib.hid (show numF (b::t)=if !((b::t).all kHz)||(decide (1<(b::t).length)&&decide (b.toNat=48)) then (0,3) else if 2147483647<kQw (b::t) then (0,2) else (kQw (b::t),0) from rfl)
 have hat:=str_at (s:=b::t) (k:=0) (b:=b) rfl
 have hpos:0<(b::t).length:=by simp
 cases ha:(b::t).all kHz with
 | false =>
  have hlt:=take_not ha
  rw [ha] at hF
  simp only [Bool.not_false,Bool.true_or,if_true] at hF
  have HA:Hid (∀w,Calls Tryz.prog 79 #[.string ⟨(b::t).toArray⟩,.func (.func 118) #[] #[]] w fun e w'=>e=.returned (.int .i64 ((b::t).takeWhile kHz).length)∧w'=w):=HC
  generalize ((b::t).takeWhile kHz).length=n at *
  generalize b::t=s at *
  have hlt':(n:Int)<s.length:=by omega
  clear HC ha
  go_enter Tryz.func119,Tryz.ntmps119
  go_wp2_with fail
  refine (HA.out _).mono ?_
  rintro e w1 ⟨rfl,rfl⟩
  go_wp2_with fail
  go_ret2
  rw [hF.out]
  exact⟨rfl,Upto.refl _ _⟩
 | true =>
  rw [ha] at hF
  have hd0:=all_at ha (k:=0) rfl
  simp only [take_all ha] at HC
  have HP:=Lib.hid (parse86 (b::t) (by simp) hl (fun x hx=>List.all_eq_true.1 ha x hx) te pe)
  have HN:=Lib.hid (show numF (b::t)=_ from rfl)
  by_cases h48:1<(b::t).length∧b.toNat=48
  ·obtain⟨h1,h2⟩:=h48
   simp only [h1,h2,decide_true,Bool.and_self,Bool.or_true,if_true] at hF
   generalize b::t=s at *
   have h1':(1:Int)<s.length:=by omega
   have h2':((b.toNat:Int)==48)=true:=by simp [h2]
   clear HP HN h2 ha
   go_enter Tryz.func119,Tryz.ntmps119
   go_wp2_with fail
   refine (HC.out _).mono ?_
   rintro e w1 ⟨rfl,rfl⟩
   go_wp2_with fail
   go_ret2
   rw [hF.out]
   exact⟨rfl,Upto.refl _ _⟩
  ·have hz:(decide (1<(b::t).length)&&decide (b.toNat=48))=false:=by
    rw [Bool.and_eq_false_iff]
    by_cases h1:1<(b::t).length
    ·exact Or.inr (decide_eq_false fun h=>h48 ⟨h1,h⟩)
    ·exact Or.inl (decide_eq_false h1)
   simp only [hz,Bool.not_true,Bool.or_self,Bool.false_eq_true,if_false] at hF
   have hor:¬(1:Int)<(b::t).length∨(1:Int)<(b::t).length∧((b.toNat:Int)==48)=false:=by
    by_cases h1:1<(b::t).length
    ·refine Or.inr ⟨by omega,?_⟩
     rw [beq_eq_false_iff_ne]
     exact fun h=>h48 ⟨h1,by omega⟩
    ·exact Or.inl (by omega)
   generalize b::t=s at *
   clear HN hz h48 ha
   rcases hor with hor | ⟨hor,hb48⟩
   all_goals
    go_enter Tryz.func119,Tryz.ntmps119
    go_wp2_with fail
    refine (HC.out _).mono ?_
    rintro e w1 ⟨rfl,rfl⟩
    go_wp2_with fail
    refine (HP.out _ hr).mono ?_
    rintro e w2 ⟨hu,⟨hn,rfl⟩ | ⟨hn,N,rfl⟩⟩
    ·rw [if_neg (by omega)] at hF
     go_wp2_with fail
     go_ret2
     rw [hF.out]
     exact⟨rfl,hu⟩
    ·rw [if_pos hn] at hF
     go_wp2_with fail
     go_ret2
     rw [hF.out]
     exact⟨rfl,hu⟩
theorem numberR_calls (b:UInt8) (t:List UInt8) (w:World) (hl:(b::t).length≤281474976710656) :
  Calls Tryz.prog 130 #[.string ⟨(b::t).toArray⟩] w fun e w'=>e=.returned (.tuple #[.int .i64 (numF (b::t)).1,.int .i64 (numF (b::t)).2])∧w'=w:=by
 have HD:=Lib.hid digitR_calls
 have hsz:(ByteArray.mk (b::t).toArray).size=(b::t).length:=rfl
 have hF:=Lib.hid (show numF (b::t)=if !((b::t).all kHz)||(decide (1<(b::t).length)&&decide (b.toNat=48)) then (0,3) else if 2147483647<kQw (b::t) then (0,2) else (kQw (b::t),0) from rfl)
 have hat0:=str_at (s:=b::t) (k:=0) (b:=b) rfl
 have hpos:0<(b::t).length:=by simp
 generalize b::t=s at *
 obtain⟨W0,hW0⟩:∃W0,W0=w:=⟨_,rfl⟩
 rw [←hW0]
 clear hW0
 go_enter Tryz.func130,Tryz.ntmps130
 go_wp2_with fail
 go_loopw [4] (fun i wr=>∃k:Nat,k≤s.length∧i=.int .i64 k∧Hid (∀x∈s.take k,kHz x=true)∧wr=W0) (fun i _=>s.length-(intOf i).toNat)
 case atStart=>exact⟨0,Nat.zero_le _,rfl,Lib.hid (by simp),rfl⟩
 case round =>
  obtain⟨k,hk,rfl,HT,hw0⟩:=hrel
  have hw1:=hw0.symm
  subst hw1
  rcases Nat.lt_or_ge k s.length with hlt | hge
  ·obtain⟨x,hx⟩:∃x,s[k]?=some x:=⟨s[k],List.getElem?_eq_getElem hlt⟩
   have hat:=str_at hx
   have hlt':(k:Int)<s.length:=by omega
   have HX:=Lib.hid hx
   clear hx
   go_wp2_with fail
   refine (HD.out _ _).mono ?_
   rintro e w1 ⟨rfl,rfl⟩
   cases hd:kHz x with
   | true =>
    go_wp2_with fail
    go_roundw
    case rel =>
     refine⟨k+1,by omega,by go_num,Lib.hid ?_,trivial⟩
     rw [take_snoc' HX.out]
     intro y hy
     rcases List.mem_append.1 hy with hy | hy
     ·exact HT.out y hy
     ·rw [List.mem_singleton.1 hy];exact hd
    case measure=>simp [intOf];omega
   | false =>
    go_wp2_with fail
    go_ret2
    have ha:s.all kHz=false:=by
     cases h:s.all kHz with
     | false=>rfl
     | true=>rw [all_at h HX.out] at hd;cases hd
    rw [hF.out,ha]
    exact⟨rfl,rfl⟩
  ·have hge':¬(k:Int)<s.length:=by omega
   have hks:k=s.length:=by omega
   have ha:s.all kHz=true:=List.all_eq_true.2 (by have:=HT.out;rwa [List.take_of_length_le hge] at this)
   have hF2:=hF.out
   rw [ha] at hF2
   have H0:=Lib.hid hat0
   clear HT hat0
   by_cases h48:1<s.length∧b.toNat=48
   ·obtain⟨h1,h2⟩:=h48
    have h1':(1:Int)<s.length:=by omega
    have h2':((b.toNat:Int)==48)=true:=by simp [h2]
    simp only [h1,h2,decide_true,Bool.and_self,Bool.or_true,if_true] at hF2
    have HF:=Lib.hid hF2
    clear hF2 hF h2 ha
    have hat0:=H0.out
    go_wp2_with fail
    go_ret2
    rw [HF.out]
    exact⟨rfl,rfl⟩
   ·have hz:(decide (1<s.length)&&decide (b.toNat=48))=false:=by
     rw [Bool.and_eq_false_iff]
     by_cases h1:1<s.length
     ·exact Or.inr (decide_eq_false fun h=>h48 ⟨h1,h⟩)
     ·exact Or.inl (decide_eq_false h1)
    simp only [hz,Bool.not_true,Bool.or_self,Bool.false_eq_true,if_false] at hF2
    have hor:¬(1:Int)<s.length∨(1:Int)<s.length∧((b.toNat:Int)==48)=false:=by
     by_cases h1:1<s.length
     ·refine Or.inr ⟨by omega,?_⟩
      rw [beq_eq_false_iff_ne]
      exact fun h=>h48 ⟨h1,by omega⟩
     ·exact Or.inl (by omega)
    have HF:=Lib.hid hF2
    have HA:=Lib.hid ha
    clear hF2 hF hz h48 ha
    have hat0:=H0.out
    rcases hor with hor | ⟨hor,hb48⟩
    all_goals
     go_wp2_with fail
     clear hat0 hor hge' hks hk hge
     go_loopw [5,6] (fun n i wr=>∃k:Nat,k≤s.length∧i=.int .i64 k∧n=.int .i64 (kQw (s.take k):Nat)∧kQw (s.take k)≤2147483647∧wr=W0) (fun _ i _=>s.length-(intOf i).toNat)
     case atStart=>exact⟨0,Nat.zero_le _,rfl,by simp [kQw],by simp [kQw],rfl⟩
     case round =>
      obtain⟨k,hk,rfl,rfl,hm,hw0⟩:=hrel
      have hw1:=hw0.symm
      subst hw1
      rcases Nat.lt_or_ge k s.length with hlt | hge
      ·obtain⟨x,hx⟩:∃x,s[k]?=some x:=⟨s[k],List.getElem?_eq_getElem hlt⟩
       have hat:=str_at hx
       have hlt':(k:Int)<s.length:=by omega
       have hd:=digit_bounds (all_at HA.out hx)
       have hs:=Lib.hid (lxNum_snoc hx)
       have hle:=Lib.hid (lxNum_take_le s (k+1))
       clear hx
       generalize kQw (s.take k)=m at *
       have d1:(48:Int)≤x.toNat:=by omega
       have d2:(x.toNat:Int)≤57:=by omega
       have d3:(m:Int)≤2147483647:=by omega
       have d4:(0:Int)≤m:=by omega
       by_cases hov:2147483647<10*m+(x.toNat-48)
       ·have hov':(2147483647:Int)<10*m+x.toNat-48:=by omega
        go_wp2_with fail
        go_ret2
        rw [HF.out,if_pos (by have:=hs.out;have:=hle.out;omega)]
        exact⟨rfl,rfl⟩
       ·have hov':¬(2147483647:Int)<10*m+x.toNat-48:=by omega
        go_wp2_with fail
        go_roundw
        case rel=>exact⟨k+1,by omega,by go_num,by rw [hs.out];go_num,by rw [hs.out];omega,trivial⟩
        case measure=>simp [intOf];omega
      ·have hge':¬(k:Int)<s.length:=by omega
       have hts:s.take k=s:=List.take_of_length_le hge
       rw [hts] at hm ⊢
       go_wp2_with fail
       go_ret2
       rw [HF.out,if_neg (by omega)]
       exact⟨rfl,rfl⟩
def sb (l:List UInt8):Value:=.string ⟨l.toArray⟩
def kwText:List UInt8:=[102,105,110,100,32,115,111,109,101,32,101,118,101,114,121,32,118,101,114,116,101,120,32,101,100,103,101,32,115,101,116,32,101,100,103,101,115,32,116,114,117,101,32,102,97,108,115,101,32,110,111,116,32,97,110,100,32,111,114,32,105,109].append [112,108,105,101,115,32,105,102,102,32,105,110,32,115,117,98,32,97,100,106,32,111,110,32,105,115,32,111,110,101,32,115,105,122,101,32,109,111,100,32,108,101,97,115,116,32,103,114,101,97,116,101,115,116,32,97,115,107,32,108,101,116]
theorem fields_words:Lib.fields kwText=kIw:=by kernel_rfl
theorem words_len:kIw.length=26:=by kernel_rfl
theorem words_low:∀(j:Nat) b,kwText[j]?=some b→b.toNat<128:=by
 intro j b h
 have h2:kwText.all (fun b=>decide (b.toNat<128))=true:=by kernel_rfl
 simpa using List.all_eq_true.1 h2 b (List.mem_of_getElem? h)
theorem keywords_calls (w:World) (he:Env w):Calls Tryz.prog 115 #[] w fun e w'=>e=.returned (.slice (some ⟨w.heap.size,0,none⟩) 26 26)∧w'=w.alloc (.cells (kIw.map sb).toArray 9):=by
 have H:=Tryz.strings_Fields_laid ⟨kwText.toArray⟩ w (show kwText.length<_ by have:kwText.length=124:=by kernel_rfl
                                                                              omega) (by rw [List.toList_toArray];exact words_low) he.tab
 simp only [fields_words,words_len] at H
 have HH:=Lib.hid H
 clear H
 go_enter Tryz.func115,Tryz.ntmps115
 go_wp2_with fail
 refine HH.out.mono ?_
 rintro e w1 ⟨rfl,rfl⟩
 go_wp2
 go_ret
 exact⟨rfl,rfl⟩
theorem wordsR_calls (w:World):Calls Tryz.prog 150 #[] w fun e w'=>e=.returned (.slice (some ⟨w.heap.size,0,none⟩) 26 26)∧w'=w.alloc (.cells (kIw.map sb).toArray 9):=by
 go_enter Tryz.func150,Tryz.ntmps150
 go_wp2
 go_ret
 exact⟨rfl,rfl⟩
def kwE (x:List UInt8):Value×Value:=(sb x,.bool true)
def Keys (w:World) (v:Value):Prop:=∃b,v=.map (some b)∧MapL Tryz.prog 9 w b (kIw.map kwE)
theorem Keys.ext {w w':World} {v:Value} (h:Keys w v) (hu:Upto [] w w'):Keys w' v:=by
 obtain⟨b,h1,h2⟩:=h
 exact⟨b,h1,h2.upto hu (by simp)⟩
theorem lawS:Keyed Tryz.prog 9:=string_keyed Tryz.underlying9
theorem zeroB (w:World):(zeroValue 4).run Tryz.prog w=.ok (.bool false) w:=Tryz.zeroValue4 w
theorem kWx {a b:List UInt8} (h:sb a=sb b):a=b:=by
 unfold sb at h
 injection h with h
 injection h with h
 simpa using congrArg Array.toList h
theorem words_apart:kIw.Nodup:=by decide
theorem words_short {x:List UInt8} (h:x∈kIw):x.length≤16:=by
 have h2:kIw.all (fun x=>decide (x.length≤16))=true:=by kernel_rfl
 simpa using List.all_eq_true.1 h2 x h
theorem kVj {x:List UInt8} (h:x.length≤9223372036854775807):keyOf Tryz.prog 9 (sb x)=some (.string x):=by
 have:=keyS (P:=Tryz.prog) Tryz.underlying9 (s:=⟨x.toArray⟩) (by unfold maxLen;exact h)
 simpa [sb] using this
theorem kw_new {i:Nat} {x:List UInt8} (h:kIw[i]?=some x):∀p∈(kIw.take i).map kwE,p.1≠sb x:=by
 intro p hp e
 obtain⟨y,hy,rfl⟩:=List.mem_map.1 hp
 have hyx:y=x:=kWx e
 subst hyx
 obtain⟨j,hj⟩:=List.mem_iff_getElem?.1 hy
 rw [List.getElem?_take] at hj
 split at hj
 ·rename_i hlt
  have:=(List.getElem?_inj (by have:=(List.getElem?_eq_some_iff.1 h).1;omega) words_apart).1 (hj.trans h.symm)
  omega
 ·cases hj
theorem known_calls (w:World) (he:Env w):Calls Tryz.prog 75 #[] w fun e w'=>∃v,e=.returned v∧Keys w' v∧Upto [] w w':=by
 have h0:=MapL.made Tryz.prog 9 w
 have hu0:Upto [] w (w.alloc (.map #[] 0)):=(Upto.refl [] w).alloc _
 have HK:=Lib.hid (keywords_calls _ (he.ext hu0))
 have hu1:=hu0.alloc (.cells (kIw.map sb).toArray 9)
 have hm1:MapL Tryz.prog 9 ((w.alloc (.map #[] 0)).alloc (.cells (kIw.map sb).toArray 9)) w.heap.size []:=h0.upto ((Upto.refl [] _).alloc _) (by simp)
 have hb1:=kAq (w.alloc (.map #[] 0)) (.cells (kIw.map sb).toArray 9)
 have hsz:(w.alloc (.map #[] 0)).heap.size=w.heap.size+1:=by simp
 rw [hsz] at HK hb1
 generalize hW1:(w.alloc (.map #[] 0)).alloc (.cells (kIw.map sb).toArray 9)=W1 at *
 clear h0 hsz hu0 he
 have hmm:=@run_makeMap Tryz.prog
 go_enter Tryz.func75,Tryz.ntmps75
 go_wp2_with fail
 refine HK.out.mono ?_
 rintro e w1 ⟨rfl,h1⟩
 have h2:=h1.symm
 subst h2
 clear HK
 go_wp2_with fail
 go_loopw [7] (fun j wr=>∃i:Nat,i≤26∧j=.int .i64 i∧MapL Tryz.prog 9 wr w.heap.size ((kIw.take i).map kwE)∧Upto [w.heap.size] W1 wr) (fun j _=>26-(intOf j).toNat)
 case atStart=>exact⟨0,by omega,rfl,hm1,Upto.refl _ _⟩
 case round =>
  obtain⟨i,hi,rfl,hm,hup⟩:=hrel
  rcases Nat.lt_or_ge i 26 with hlt | hge
  ·obtain⟨x,hx⟩:∃x,kIw[i]?=some x:=⟨_,List.getElem?_eq_getElem (by rw [words_len];exact hlt)⟩
   have hc:wr.cell? ⟨w.heap.size+1,i,none⟩=some (sb x):=by
    rw [hup.cell (p:=⟨w.heap.size+1,i,none⟩) (kAk hb1) (by simp),kAz hb1]
    simp [hx]
   have hlt':(i:Int)<26:=by omega
   have HN:=Lib.hid (kw_new hx)
   have HKx:=Lib.hid (kVj (x:=x) (by have:=words_short (List.mem_of_getElem? hx);omega))
   have HT:Hid ((kIw.take (i+1)).map kwE=(kIw.take i).map kwE++[(sb x,.bool true)]):=Lib.hid (by
    obtain⟨h1,h2⟩:=List.getElem?_eq_some_iff.1 hx
    rw [List.take_succ_eq_append_getElem h1,h2,List.map_append];rfl)
   clear hx hm1 hb1 hu1
   generalize sb x=vx at *
   generalize (kIw.take i).map kwE=L at *
   go_wp2_with (refine wpList_insert _ rfl _ _ _ 96 rfl 9 4 lawS Tryz.underlying96 w.heap.size L rfl hm vx (.bool true) _ rfl rfl HKx.out HN.out ?_;intro w3 hm3 hg3)
   go_roundw
   case rel =>
    exact⟨i+1,by omega,by go_num,by rw [HT.out];exact hm3,hup.grown hg3 (fun k hk=>by cases hk;simp)⟩
   case measure=>simp [intOf];omega
  ·have hge':¬(i:Int)<26:=by omega
   have hL:kIw.take i=kIw:=List.take_of_length_le (by rw [words_len];omega)
   rw [hL] at hm
   have hup2:=hu1.trans hup (S':=[w.heap.size]) (fun k hk=>by simp at hk;subst hk;right;exact Nat.le_refl _)
   clear hm1 hb1 hu1 hup
   go_wp2
   go_ret
   exact⟨_,rfl,⟨_,rfl,hm⟩,hup2⟩
theorem Keys.look {w:World} {v:Value} (h:Keys w v) (x:List UInt8) (hl:x.length≤9223372036854775807):(Instr.lookup 96 v (.string ⟨x.toArray⟩) false).run Tryz.prog w=.ok (.bool (kIw.contains x)) w:=by
 obtain⟨b,rfl,hm⟩:=h
 rcases hm.look lawS Tryz.underlying96 (zeroB w) (kVj hl) false with⟨h1,h2⟩ | ⟨u,h1,h2⟩
 ·have:kIw.contains x=false:=by
   cases hc:kIw.contains x with
   | false=>rfl
   | true=>exact absurd rfl (h2 (kwE x) (List.mem_map.2 ⟨x,by simpa using hc,rfl⟩))
  rw [this]
  exact h1
 ·obtain⟨y,hy,hq⟩:=List.mem_map.1 h1
  have hq1:sb y=sb x:=congrArg Prod.fst hq
  have hq2:Value.bool true=u:=congrArg Prod.snd hq
  have hyx:=kWx hq1
  subst hyx
  have:kIw.contains y=true:=by simpa using hy
  rw [this,hq2]
  exact h2
theorem isWord_calls (x:List UInt8) (w:World):Calls Tryz.prog 132 #[.string ⟨x.toArray⟩] w fun e w'=>e=.returned (.bool (kIw.contains x))∧Upto [] w w':=by
 have HW:=Lib.hid (wordsR_calls w)
 have hu:Upto [] w (w.alloc (.cells (kIw.map sb).toArray 9)):=(Upto.refl [] w).alloc _
 have hb:=kAq w (.cells (kIw.map sb).toArray 9)
 generalize w.alloc (.cells (kIw.map sb).toArray 9)=W1 at *
 go_enter Tryz.func132,Tryz.ntmps132
 go_wp2_with fail
 refine HW.out.mono ?_
 rintro e w1 ⟨rfl,h1⟩
 have h2:=h1.symm
 subst h2
 clear HW
 go_wp2_with fail
 go_loopw [4] (fun j wr=>∃i:Nat,i≤26∧j=.int .i64 i∧Hid (x∉kIw.take i)∧wr=W1) (fun j _=>26-(intOf j).toNat)
 case atStart=>exact⟨0,by omega,rfl,Lib.hid (by simp),rfl⟩
 case round =>
  obtain⟨i,hi,rfl,hx,hw0⟩:=hrel
  have hw1:=hw0.symm
  subst hw1
  rcases Nat.lt_or_ge i 26 with hlt | hge
  ·obtain⟨y,hy⟩:∃y,kIw[i]?=some y:=⟨_,List.getElem?_eq_getElem (by rw [words_len];exact hlt)⟩
   have hc:W1.cell? ⟨w.heap.size,i,none⟩=some (.string ⟨y.toArray⟩):=by
    rw [kAz hb]
    simp [hy,sb]
   have hlt':(i:Int)<26:=by omega
   have HY:=Lib.hid hy
   clear hy hb
   by_cases hyx:y=x
   ·have HE2:(y==x)=true:=by simpa using hyx
    go_wp2_with fail
    go_ret
    refine⟨kNx ?_,hu⟩
    subst hyx
    have:=List.mem_of_getElem? HY.out
    simp [this]
   ·have HE2:(y==x)=false:=by simpa using hyx
    go_wp2_with fail
    go_roundw
    case rel =>
     refine⟨i+1,by omega,by go_num,Lib.hid ?_,trivial⟩
     obtain⟨h1,h2⟩:=List.getElem?_eq_some_iff.1 HY.out
     rw [List.take_succ_eq_append_getElem h1,h2]
     intro hm
     rcases List.mem_append.1 hm with hm | hm
     ·exact hx.out hm
     ·exact hyx (List.mem_singleton.1 hm).symm
    case measure=>simp [intOf];omega
  ·have hge':¬(i:Int)<26:=by omega
   clear hb
   have hi26:=Lib.hid (show i=26 by omega)
   go_wp2_with fail
   go_ret
   refine⟨kNx ?_,hu⟩
   have:=hx.out
   rw [hi26.out,List.take_of_length_le (by rw [words_len];exact Nat.le_refl _)] at this
   simp [this]
theorem classify_digit {b:UInt8} {t:List UInt8} (hb:kHz b=true):kEw (b::t)=if (numF (b::t)).2=0 then .ok (2,(numF (b::t)).1) else .error (numF (b::t)).2:=by
 have h1:decide (1<(b::t).length)=decide (t≠[]):=by
  cases t<;>simp
 have h2:numF (b::t)=if !((b::t).all kHz)||(decide (1<(b::t).length)&&decide (b.toNat=48)) then (0,3) else if 2147483647<kQw (b::t) then (0,2) else (kQw (b::t),0):=rfl
 rw [h1] at h2
 simp only [kEw,hb,if_true]
 rw [h2]
 split
 ·rfl
 ·split
  ·rfl
  ·rfl
def tkV (k:Nat) (s:List UInt8) (v:Nat):Value:=.agg #[.int .i64 k,.string ⟨s.toArray⟩,.int .i64 v,.int .i64 0,.int .i64 0]
def RunR (s:List UInt8) (e:Ending):Prop:=∃k v n:Nat,∃x:List UInt8,e=.returned (.tuple #[tkV k x v,.int .i64 n]) ∧
 ((n=0∧x=s∧kEw s=.ok (k,v))∨(n≠0∧kEw s=.error n))
theorem RunR.ok {s:List UInt8} {k v:Nat} (h:kEw s=.ok (k,v)):RunR s (.returned (.tuple #[.agg #[.int .i64 k,.string ⟨s.toArray⟩,.int .i64 v,.int .i64 0,.int .i64 0],.int .i64 0])):=⟨k,v,0,s,rfl,Or.inl ⟨rfl,rfl,h⟩⟩
theorem RunR.bad {s:List UInt8} {n:Nat} (hn:n≠0) (h:kEw s=.error n):RunR s (.returned (.tuple #[.agg #[.int .i64 0,.string ⟨#[]⟩,.int .i64 0,.int .i64 0,.int .i64 0],.int .i64 n])):=⟨0,0,n,[],rfl,Or.inr ⟨hn,h⟩⟩
theorem RunR.num {b:UInt8} {t:List UInt8} (hb:kHz b=true):RunR (b::t) (.returned (.tuple #[.agg #[.int .i64 2,.string ⟨(b::t).toArray⟩,.int .i64 (numF (b::t)).1,.int .i64 0,.int .i64 0],.int .i64 (numF (b::t)).2])):=by
 refine⟨2,(numF (b::t)).1,(numF (b::t)).2,b::t,rfl,?_⟩
 rw [classify_digit hb]
 by_cases h:(numF (b::t)).2=0
 ·exact Or.inl ⟨h,rfl,by rw [if_pos h]⟩
 ·exact Or.inr ⟨h,by rw [if_neg h]⟩
theorem tok_cells (w:World) (a b c d e:Value) (T:TypeId):(w.alloc (.cells #[a,b,c,d,e] T)).cell? ⟨w.heap.size,0,none⟩=some a∧(w.alloc (.cells #[a,b,c,d,e] T)).cell? ⟨w.heap.size,1,none⟩=some b∧(w.alloc (.cells #[a,b,c,d,e] T)).cell? ⟨w.heap.size,2,none⟩=some c∧(w.alloc (.cells #[a,b,c,d,e] T)).cell? ⟨w.heap.size,3,none⟩=some d∧(w.alloc (.cells #[a,b,c,d,e] T)).cell? ⟨w.heap.size,4,none⟩=some e:=by
 have h:=kAq w (.cells #[a,b,c,d,e] T)
 exact⟨by rw [kAz h];rfl,by rw [kAz h];rfl,by rw [kAz h];rfl,by rw [kAz h];rfl,by rw [kAz h];rfl⟩
theorem run_calls (b:UInt8) (t:List UInt8) (m:Value) (w:World) (hl:(b::t).length≤281474976710656) (he:Env w) (hk:Keys w m) :
  Calls Tryz.prog 80 #[.string ⟨(b::t).toArray⟩,m] w fun e w'=>RunR (b::t) e∧Upto [] w w':=by
 have hu0:Upto [] w (w.alloc (.cells #[.int .i64 0,.string ⟨#[]⟩,.int .i64 0,.int .i64 0,.int .i64 0] 83)):=(Upto.refl [] w).alloc _
 have HL:=(hk.ext hu0).look (b::t) (by omega)
 have HN:=Lib.hid (number_calls b t _ hl (he.ext hu0))
 obtain⟨bm,rfl,-⟩:=hk
 have HD:=Lib.hid digit_calls
 have HT:=Lib.hid letter_calls
 have hsz:(ByteArray.mk (b::t).toArray).size=(b::t).length:=rfl
 have hat:=str_at (s:=b::t) (k:=0) (b:=b) rfl
 have hpos:(0:Int)<(b::t).length:=by simp only [List.length_cons];omega
 cases hw:kIw.contains (b::t) with
 | true =>
  have hc:kEw (b::t)=.ok (3,0):=by
   have hm:(b::t)∈kIw:=by simpa using hw
   have h2:kIw.all (fun x=>match x with | []=>false | b::_=>kPq b&&!kHz b)=true:=by kernel_rfl
   have h3:=List.all_eq_true.1 h2 _ hm
   simp only [Bool.and_eq_true,Bool.not_eq_true'] at h3
   simp only [kEw,h3.1,h3.2,hw,Bool.false_eq_true,if_false,if_true,Bool.not_true]
  rw [hw] at HL
  have HC:=Lib.hid hc
  generalize b::t=s at *
  clear hc hw hat he HN
  go_enter Tryz.func80,Tryz.ntmps80
  go_wp2_with fail
  obtain⟨q0,q1,q2,q3,q4⟩:=tok_cells w (.int .i64 3) (.string ⟨s.toArray⟩) (.int .i64 0) (.int .i64 0) (.int .i64 0) 36
  refine bodyPost_ret (v:=.tuple #[.agg #[.int .i64 3,.string ⟨s.toArray⟩,.int .i64 0,.int .i64 0,.int .i64 0],.int .i64 0]) (by simp [results,Tryz.results80,go_sem]) rfl ⟨?_,(Upto.refl _ _).alloc _⟩
  exact RunR.ok HC.out
 | false =>
  rw [hw] at HL
  cases hd:kHz b with
  | true =>
   have HH:=Lib.hid hd
   have HF:=Lib.hid (RunR.num (t:=t) hd)
   generalize (numF (b::t)).1=nv at *
   generalize (numF (b::t)).2=ne at *
   generalize b::t=s at *
   clear he hw
   go_enter Tryz.func80,Tryz.ntmps80
   go_wp2_with fail
   refine (HD.out _ _).mono ?_
   rintro e w1 ⟨rfl,rfl⟩
   rw [HH.out]
   go_wp2_with fail
   refine HN.out.mono ?_
   rintro e w2 ⟨rfl,hu2⟩
   have hb2:=hu2.at (kAq w (.cells #[.int .i64 0,.string ⟨#[]⟩,.int .i64 0,.int .i64 0,.int .i64 0] 83)) (by simp)
   have huw:=hu0.trans_ext hu2
   clear hu0 hu2
   generalize hB:w.heap.size=B at *
   obtain⟨q0,q1,q2,q3,q4⟩:=cells5 hb2
   obtain⟨f0,f1,f2,f3,f4⟩:=frees5 hb2
   clear HD HT HN HL
   go_wp2_with fail
   refine bodyPost_ret (v:=.tuple #[.agg #[.int .i64 2,.string ⟨s.toArray⟩,.int .i64 nv,.int .i64 0,.int .i64 0],.int .i64 ne]) (by simp [results,Tryz.results80,go_sem,q0,q1,q2,q3,q4]) rfl ⟨HF.out,?_⟩
   have hin:w.heap.size≤B:=by omega
   exact ((((huw.setCell (Or.inr hin) _).setCell (Or.inr hin) _).setCell (Or.inr hin) _).setCell (Or.inr hin) _).setCell (Or.inr hin) _
  | false =>
   have HH:=Lib.hid hd
   cases hlt:kPq b with
   | false =>
    have HJ:=Lib.hid hlt
    have hc:kEw (b::t)=.error 3:=by simp only [kEw,hd,hlt,Bool.false_eq_true,if_false,if_true,Bool.not_false]
    have HC:=Lib.hid hc
    generalize b::t=s at *
    clear hc hw he HN
    go_enter Tryz.func80,Tryz.ntmps80
    go_wp2_with fail
    refine (HD.out _ _).mono ?_
    rintro e w1 ⟨rfl,rfl⟩
    rw [HH.out]
    go_wp2_with fail
    refine (HT.out _ _).mono ?_
    rintro e w1 ⟨rfl,rfl⟩
    rw [HJ.out]
    go_wp2_with fail
    obtain⟨q0,q1,q2,q3,q4⟩:=tok_cells w (.int .i64 0) (.string ⟨#[]⟩) (.int .i64 0) (.int .i64 0) (.int .i64 0) 36
    refine bodyPost_ret (v:=.tuple #[.agg #[.int .i64 0,.string ⟨#[]⟩,.int .i64 0,.int .i64 0,.int .i64 0],.int .i64 3]) (by simp [results,Tryz.results80,go_sem]) rfl ⟨?_,(Upto.refl _ _).alloc _⟩
    exact RunR.bad (by decide) HC.out
   | true =>
    have HJ:=Lib.hid hlt
    by_cases h16:16<(b::t).length
    ·have hc:kEw (b::t)=.error 2:=by simp only [kEw,hd,hlt,hw,h16,Bool.false_eq_true,if_false,if_true,Bool.not_true]
     have HC:=Lib.hid hc
     have h16':(16:Int)<(b::t).length:=by omega
     generalize b::t=s at *
     clear hc hw he HN
     go_enter Tryz.func80,Tryz.ntmps80
     go_wp2_with fail
     refine (HD.out _ _).mono ?_
     rintro e w1 ⟨rfl,rfl⟩
     rw [HH.out]
     go_wp2_with fail
     refine (HT.out _ _).mono ?_
     rintro e w1 ⟨rfl,rfl⟩
     rw [HJ.out]
     go_wp2_with fail
     obtain⟨q0,q1,q2,q3,q4⟩:=tok_cells w (.int .i64 0) (.string ⟨#[]⟩) (.int .i64 0) (.int .i64 0) (.int .i64 0) 36
     refine bodyPost_ret (v:=.tuple #[.agg #[.int .i64 0,.string ⟨#[]⟩,.int .i64 0,.int .i64 0,.int .i64 0],.int .i64 2]) (by simp [results,Tryz.results80,go_sem]) rfl ⟨?_,(Upto.refl _ _).alloc _⟩
     exact RunR.bad (by decide) HC.out
    ·have hc:kEw (b::t)=.ok (1,0):=by simp only [kEw,hd,hlt,hw,h16,Bool.false_eq_true,if_false,Bool.not_true]
     have HC:=Lib.hid hc
     have h16':¬(16:Int)<(b::t).length:=by omega
     generalize b::t=s at *
     clear hc hw he HN
     go_enter Tryz.func80,Tryz.ntmps80
     go_wp2_with fail
     refine (HD.out _ _).mono ?_
     rintro e w1 ⟨rfl,rfl⟩
     rw [HH.out]
     go_wp2_with fail
     refine (HT.out _ _).mono ?_
     rintro e w1 ⟨rfl,rfl⟩
     rw [HJ.out]
     go_wp2_with fail
     obtain⟨q0,q1,q2,q3,q4⟩:=tok_cells w (.int .i64 1) (.string ⟨s.toArray⟩) (.int .i64 0) (.int .i64 0) (.int .i64 0) 36
     refine bodyPost_ret (v:=.tuple #[.agg #[.int .i64 1,.string ⟨s.toArray⟩,.int .i64 0,.int .i64 0,.int .i64 0],.int .i64 0]) (by simp [results,Tryz.results80,go_sem]) rfl ⟨?_,(Upto.refl _ _).alloc _⟩
     exact RunR.ok HC.out
theorem tokenR_calls (b:UInt8) (t:List UInt8) (w:World) (hl:(b::t).length≤281474976710656) :
  Calls Tryz.prog 96 #[.string ⟨(b::t).toArray⟩] w fun e w'=>RunR (b::t) e∧Upto [] w w':=by
 have hu0:Upto [] w (w.alloc (.cells #[.int .i64 0,.string ⟨#[]⟩,.int .i64 0,.int .i64 0,.int .i64 0] 136)):=(Upto.refl [] w).alloc _
 have HW:=Lib.hid (isWord_calls (b::t) (w.alloc (.cells #[.int .i64 0,.string ⟨#[]⟩,.int .i64 0,.int .i64 0,.int .i64 0] 136)))
 have HN:=Lib.hid (numberR_calls b t (w.alloc (.cells #[.int .i64 0,.string ⟨#[]⟩,.int .i64 0,.int .i64 0,.int .i64 0] 136)) hl)
 have HD:=Lib.hid digitR_calls
 have HT:=Lib.hid letterR_calls
 have hsz:(ByteArray.mk (b::t).toArray).size=(b::t).length:=rfl
 have hat:=str_at (s:=b::t) (k:=0) (b:=b) rfl
 have hpos:(0:Int)<(b::t).length:=by simp only [List.length_cons];omega
 cases hd:kHz b with
 | true =>
  have HH:=Lib.hid hd
  have HF:=Lib.hid (RunR.num (t:=t) hd)
  generalize (numF (b::t)).1=nv at *
  generalize (numF (b::t)).2=ne at *
  generalize b::t=s at *
  clear HW HT
  go_enter Tryz.func96,Tryz.ntmps96
  go_wp2_with fail
  refine (HD.out _ _).mono ?_
  rintro e w1 ⟨rfl,rfl⟩
  rw [HH.out]
  go_wp2_with fail
  refine HN.out.mono ?_
  rintro e w2 ⟨rfl,rfl⟩
  go_wp2_with fail
  obtain⟨q0,q1,q2,q3,q4⟩:=tok_cells w (.int .i64 2) (.string ⟨s.toArray⟩) (.int .i64 nv) (.int .i64 0) (.int .i64 0) 80
  refine bodyPost_ret (v:=.tuple #[.agg #[.int .i64 2,.string ⟨s.toArray⟩,.int .i64 nv,.int .i64 0,.int .i64 0],.int .i64 ne]) (by simp [results,Tryz.results96,go_sem]) rfl ⟨?_,(Upto.refl _ _).alloc _⟩
  exact HF.out
 | false =>
  have HH:=Lib.hid hd
  cases hlt:kPq b with
  | false =>
   have HJ:=Lib.hid hlt
   have hc:kEw (b::t)=.error 3:=by simp only [kEw,hd,hlt,Bool.false_eq_true,if_false,if_true,Bool.not_false]
   have HC:=Lib.hid hc
   generalize b::t=s at *
   clear hc HW HN
   go_enter Tryz.func96,Tryz.ntmps96
   go_wp2_with fail
   refine (HD.out _ _).mono ?_
   rintro e w1 ⟨rfl,rfl⟩
   rw [HH.out]
   go_wp2_with fail
   refine (HT.out _ _).mono ?_
   rintro e w1 ⟨rfl,rfl⟩
   rw [HJ.out]
   go_wp2_with fail
   obtain⟨q0,q1,q2,q3,q4⟩:=tok_cells w (.int .i64 0) (.string ⟨#[]⟩) (.int .i64 0) (.int .i64 0) (.int .i64 0) 80
   refine bodyPost_ret (v:=.tuple #[.agg #[.int .i64 0,.string ⟨#[]⟩,.int .i64 0,.int .i64 0,.int .i64 0],.int .i64 3]) (by simp [results,Tryz.results96,go_sem]) rfl ⟨?_,(Upto.refl _ _).alloc _⟩
   exact RunR.bad (by decide) HC.out
  | true =>
   have HJ:=Lib.hid hlt
   have hcl:kEw (b::t)=if kIw.contains (b::t) then .ok (3,0) else if 16<(b::t).length then .error 2 else .ok (1,0):=by simp only [kEw,hd,hlt,Bool.false_eq_true,if_false,Bool.not_true]
   have HC:=Lib.hid hcl
   cases hw:kIw.contains (b::t) with
   | true =>
    have HQ:=Lib.hid hw
    generalize b::t=s at *
    clear hcl hw HN
    go_enter Tryz.func96,Tryz.ntmps96
    go_wp2_with fail
    refine (HD.out _ _).mono ?_
    rintro e w1 ⟨rfl,rfl⟩
    rw [HH.out]
    go_wp2_with fail
    refine (HT.out _ _).mono ?_
    rintro e w1 ⟨rfl,rfl⟩
    rw [HJ.out]
    go_wp2_with fail
    refine HW.out.mono ?_
    rintro e w2 ⟨rfl,hu2⟩
    rw [HQ.out]
    have hb2:=hu2.at (kAq w (.cells #[.int .i64 0,.string ⟨#[]⟩,.int .i64 0,.int .i64 0,.int .i64 0] 136)) (by simp)
    have huw:=hu0.trans_ext hu2
    clear hu0 hu2
    generalize hB:w.heap.size=B at *
    obtain⟨q0,q1,q2,q3,q4⟩:=cells5 hb2
    obtain⟨f0,f1,f2,f3,f4⟩:=frees5 hb2
    clear HD HT HW
    go_wp2_with fail
    refine bodyPost_ret (v:=.tuple #[.agg #[.int .i64 3,.string ⟨s.toArray⟩,.int .i64 0,.int .i64 0,.int .i64 0],.int .i64 0]) (by simp [results,Tryz.results96,go_sem,q0,q1,q2,q3,q4]) rfl ⟨RunR.ok (by rw [HC.out,HQ.out];rfl),?_⟩
    have hin:w.heap.size≤B:=by omega
    exact ((((huw.setCell (Or.inr hin) _).setCell (Or.inr hin) _).setCell (Or.inr hin) _).setCell (Or.inr hin) _).setCell (Or.inr hin) _
   | false =>
    have HQ:=Lib.hid hw
    by_cases h16:16<(b::t).length
    ·have h16':(16:Int)<(b::t).length:=by omega
     generalize b::t=s at *
     clear hcl hw HN
     go_enter Tryz.func96,Tryz.ntmps96
     go_wp2_with fail
     refine (HD.out _ _).mono ?_
     rintro e w1 ⟨rfl,rfl⟩
     rw [HH.out]
     go_wp2_with fail
     refine (HT.out _ _).mono ?_
     rintro e w1 ⟨rfl,rfl⟩
     rw [HJ.out]
     go_wp2_with fail
     refine HW.out.mono ?_
     rintro e w2 ⟨rfl,hu2⟩
     rw [HQ.out]
     have hb2:=hu2.at (kAq w (.cells #[.int .i64 0,.string ⟨#[]⟩,.int .i64 0,.int .i64 0,.int .i64 0] 136)) (by simp)
     have huw:=hu0.trans_ext hu2
     clear hu0 hu2
     generalize hB:w.heap.size=B at *
     obtain⟨q0,q1,q2,q3,q4⟩:=cells5 hb2
     obtain⟨f0,f1,f2,f3,f4⟩:=frees5 hb2
     clear HD HT HW
     go_wp2_with fail
     refine bodyPost_ret (v:=.tuple #[.agg #[.int .i64 0,.string ⟨#[]⟩,.int .i64 0,.int .i64 0,.int .i64 0],.int .i64 2]) (by simp [results,Tryz.results96,go_sem,q0,q1,q2,q3,q4]) rfl ⟨RunR.bad (n:=2) (by decide) (by rw [HC.out,HQ.out,if_neg (by simp),if_pos h16]),?_⟩
     have hin:w.heap.size≤B:=by omega
     exact ((((huw.setCell (Or.inr hin) _).setCell (Or.inr hin) _).setCell (Or.inr hin) _).setCell (Or.inr hin) _).setCell (Or.inr hin) _
    ·have h16':¬(16:Int)<(b::t).length:=by omega
     generalize b::t=s at *
     clear hcl hw HN
     go_enter Tryz.func96,Tryz.ntmps96
     go_wp2_with fail
     refine (HD.out _ _).mono ?_
     rintro e w1 ⟨rfl,rfl⟩
     rw [HH.out]
     go_wp2_with fail
     refine (HT.out _ _).mono ?_
     rintro e w1 ⟨rfl,rfl⟩
     rw [HJ.out]
     go_wp2_with fail
     refine HW.out.mono ?_
     rintro e w2 ⟨rfl,hu2⟩
     rw [HQ.out]
     have hb2:=hu2.at (kAq w (.cells #[.int .i64 0,.string ⟨#[]⟩,.int .i64 0,.int .i64 0,.int .i64 0] 136)) (by simp)
     have huw:=hu0.trans_ext hu2
     clear hu0 hu2
     generalize hB:w.heap.size=B at *
     obtain⟨q0,q1,q2,q3,q4⟩:=cells5 hb2
     obtain⟨f0,f1,f2,f3,f4⟩:=frees5 hb2
     clear HD HT HW
     go_wp2_with fail
     refine bodyPost_ret (v:=.tuple #[.agg #[.int .i64 1,.string ⟨s.toArray⟩,.int .i64 0,.int .i64 0,.int .i64 0],.int .i64 0]) (by simp [results,Tryz.results96,go_sem,q0,q1,q2,q3,q4]) rfl ⟨RunR.ok (k:=1) (v:=0) (by rw [HC.out,HQ.out,if_neg (by simp),if_neg h16]),?_⟩
     have hin:w.heap.size≤B:=by omega
     exact ((((huw.setCell (Or.inr hin) _).setCell (Or.inr hin) _).setCell (Or.inr hin) _).setCell (Or.inr hin) _).setCell (Or.inr hin) _
theorem runR_calls (s:List UInt8) (i:Nat) (hi:i≤s.length) (hl:s.length≤4611686018427387904) (w:World) :
  Calls Tryz.prog 95 #[.string ⟨s.toArray⟩,.int .i64 i] w fun e w'=>e=.returned (.int .i64 ((s.drop i).takeWhile kDq).length)∧w'=w:=by
 have HI:=Lib.hid innerR_calls
 have hsz:(ByteArray.mk s.toArray).size=s.length:=rfl
 obtain⟨W0,hW0⟩:∃W0,W0=w:=⟨_,rfl⟩
 rw [←hW0]
 clear hW0
 go_enter Tryz.func95,Tryz.ntmps95
 go_wp2_with fail
 go_loopw [5] (fun j wr=>∃k:Nat,i+k≤s.length∧j=.int .i64 k∧((s.drop i).takeWhile kDq).length=k+((s.drop (i+k)).takeWhile kDq).length∧wr=W0) (fun j _=>s.length-(intOf j).toNat)
 case atStart=>exact⟨0,by omega,rfl,by simp,rfl⟩
 case round =>
  obtain⟨k,hk,rfl,he,hw0⟩:=hrel
  have hw1:=hw0.symm
  subst hw1
  have HE:=Lib.hid he
  clear he
  rcases Nat.lt_or_ge (i+k) s.length with hlt | hge
  ·obtain⟨b,hb⟩:∃b,s[i+k]?=some b:=⟨s[i+k],List.getElem?_eq_getElem hlt⟩
   have hat:=str_at hb
   have HB:=Lib.hid hb
   clear hb
   have hlt':(i:Int)+k<s.length:=by omega
   have hnn:(0:Int)≤(i:Int)+k:=by omega
   have htn:((i:Int)+k).toNat=i+k:=by omega
   go_wp2_with fail
   refine (HI.out _ _).mono ?_
   rintro e w1 ⟨rfl,rfl⟩
   cases hp:kDq b with
   | true =>
    go_wp2_with fail
    go_roundw
    case rel=>exact⟨k+1,by omega,by go_num,by rw [HE.out,take_step HB.out hp,Nat.add_assoc i k 1];omega,trivial⟩
    case measure=>simp [intOf];omega
   | false =>
    go_wp2_with fail
    go_ret
    refine⟨ret_int ?_,rfl⟩
    rw [HE.out,take_stop HB.out hp]
    omega
  ·have hge':¬(i:Int)+k<s.length:=by omega
   go_wp2_with fail
   go_ret
   refine⟨ret_int ?_,rfl⟩
   rw [HE.out,List.drop_eq_nil_of_le hge]
   simp
end Go.Proofs.YtkhbpebpljdifaaGreatDoor
namespace Go.PL
open Go.RowKit
structure Fact where
 idx:Nat
 own:List Nat
 holds:World→Prop
def kUw (ms:List Nat) (o:Oper):List Nat :=
 ms++[o.after.toList.foldl (fun m e=>if Region.binds .any e then (m ||| (1 <<< e.on)) ||| ms.getD e.on 0 else m) 0]
def masks (ops:List Oper):List Nat:=ops.foldl kUw []
def reach (ops:Array Oper) (i j:Nat):Bool:=((masks ops.toList).getD i 0).testBit j
theorem maskFold (ms:List Nat) (j:Nat):∀(es:List Edge) (m:Nat),(es.foldl (fun m e=>if Region.binds .any e then (m ||| (1 <<< e.on)) ||| ms.getD e.on 0 else m) m).testBit j=true →
  m.testBit j=true∨∃e∈es,Region.binds .any e=true∧(e.on=j∨(ms.getD e.on 0).testBit j=true)
 | [],m,h=>Or.inl h
 | e::es,m,h=>by
  rw [List.foldl_cons] at h
  rcases maskFold ms j es _ h with h | ⟨e',he,h⟩
  ·by_cases hb:Region.binds .any e=true
   ·rw [if_pos hb,Nat.testBit_or,Nat.testBit_or,Bool.or_eq_true,Bool.or_eq_true] at h
    rcases h with (h | h) | h
    ·exact Or.inl h
    ·refine Or.inr ⟨e,by simp,hb,Or.inl ?_⟩
     rw [Nat.testBit_shiftLeft] at h
     simp only [Bool.and_eq_true,decide_eq_true_eq] at h
     have:=h.2
     rw [show (1:Nat)=2 ^ 0 from rfl,Nat.testBit_two_pow] at this
     simp at this
     omega
    ·exact Or.inr ⟨e,by simp,hb,Or.inr h⟩
   ·rw [if_neg hb] at h
    exact Or.inl h
  ·exact Or.inr ⟨e',by simp [he],h⟩
theorem masks_len (ops:List Oper):(masks ops).length=ops.length:=by
 unfold masks
 suffices h:∀(l:List Oper) (ms:List Nat),(l.foldl kUw ms).length=ms.length+l.length by simpa using h ops []
 intro l
 induction l with
 | nil=>intro ms;simp
 | cons o l ih=>intro ms;rw [List.foldl_cons,ih];simp [kUw];omega
theorem masks_from (l:List Oper):∀(ms:List Nat) (i:Nat),i<ms.length→(l.foldl kUw ms).getD i 0=ms.getD i 0:=by
 induction l with
 | nil=>intro ms i _;rfl
 | cons o l ih =>
  intro ms i hi
  rw [List.foldl_cons,ih _ _ (by simp [kUw];omega)]
  simp [kUw,List.getD,List.getElem?_append_left hi]
theorem masks_spec (ops:List Oper):∀(pre post:List Oper) (o:Oper),ops=pre++o::post→∀j,((masks ops).getD pre.length 0).testBit j=true →
  ∃e∈o.after.toList,Region.binds .any e=true∧(e.on=j∨(e.on<pre.length∧((masks ops).getD e.on 0).testBit j=true)):=by
 rintro pre post o rfl j h
 have hm:masks (pre++o::post)=post.foldl kUw (kUw (masks pre) o):=by simp [masks,List.foldl_append]
 have hl:(kUw (masks pre) o).length=pre.length+1:=by simp [kUw,masks_len]
 rw [hm,masks_from _ _ _ (by rw [hl];omega)] at h
 have hg:(kUw (masks pre) o).getD pre.length 0=o.after.toList.foldl (fun m e=>if Region.binds .any e then (m ||| (1 <<< e.on)) ||| (masks pre).getD e.on 0 else m) 0:=by
  unfold kUw
  simp [List.getD,masks_len]
 rw [hg] at h
 rcases maskFold _ _ _ _ h with h | ⟨e,he,hb,h⟩
 ·simp at h
 ·refine⟨e,he,hb,h.imp id fun h=>?_⟩
  have hlt:e.on<pre.length:=by
   rw [←masks_len]
   refine Nat.lt_of_not_le fun hle=>?_
   rw [List.getD,List.getElem?_eq_none hle] at h
   simp at h
  refine⟨hlt,?_⟩
  rw [hm,masks_from _ _ _ (by rw [hl];omega)]
  simpa [kUw,List.getD,List.getElem?_append_left (show e.on<(masks pre).length by rw [masks_len];exact hlt)] using h
theorem reach_spec {ops:Array Oper} {i j:Nat} {o:Oper} (hi:ops[i]?=some o) (h:reach ops i j=true) :
  ∃e∈o.after,Region.binds .any e=true∧(e.on=j∨(e.on<i∧reach ops e.on j=true)):=by
 have hi':ops.toList[i]?=some o:=by simpa using hi
 obtain⟨hlt,hget⟩:=List.getElem?_eq_some_iff.1 hi'
 have hsplit:ops.toList=ops.toList.take i++o::ops.toList.drop (i+1):=by
  rw [←hget,←List.drop_eq_getElem_cons hlt,List.take_append_drop]
 have hlen:(ops.toList.take i).length=i:=by rw [List.length_take];omega
 obtain⟨e,he,hb,h⟩:=masks_spec _ _ _ _ hsplit j (by rw [hlen];exact h)
 rw [hlen] at h
 exact⟨e,by simpa using he,hb,h⟩
def Closed (ops:Array Oper) (listed:Array Bool):Prop:=∀i o,ops[i]?=some o→listed.getD i false=true→∀e∈o.after,Region.binds .any e=true→listed.getD e.on false=true
theorem reach_listed {ops:Array Oper} {listed:Array Bool} (hc:Closed ops listed) {j:Nat}:∀(n i:Nat) (o:Oper),i<n→ops[i]?=some o→(∀e∈o.after,Region.binds .any e=true→listed.getD e.on false=true)→reach ops i j=true→listed.getD j false=true:=by
 intro n
 induction n with
 | zero=>intro i _ h;omega
 | succ n ih =>
  intro i o hi ho hd hr
  obtain⟨e,he,hb,h | ⟨hlt,h⟩⟩:=reach_spec ho hr
  ·rw [←h];exact hd e he hb
  ·have hle:=hd e he hb
   have hlt':e.on<ops.size:=Nat.lt_trans hlt (Array.getElem?_eq_some_iff.1 ho).1
   exact ih e.on _ (by omega) (Array.getElem?_eq_getElem hlt') (hc e.on _ (Array.getElem?_eq_getElem hlt') hle) h
def plainOp (o:Oper):Bool :=
 match o.op with
 | .move _ | .assign _ | .pick .. | .build .. | .load .. | .binOp .. | .unOp .. | .fieldAddr .. | .field .. | .indexAddr .. | .index .. | .extract .. | .slice .. | .lookup .. | .makeInterface .. | .convert .. | .makeFunc .. | .nilCheck _=>true
 | _=>false
theorem then_ok {α:Type} {r:Result α} {k:α→World→Result Next} {n:Next} {w':World} (h:r.andThen k=.ok n w'):∃v w1,k v w1=.ok n w':=by
 cases r with
 | ok v w1=>exact⟨v,w1,h⟩
 | halt x w1=>simp [Result.andThen] at h
theorem only_value (P:Program) (s:Sem Value) (w w':World) (n:Next) (h:(do pure (Next.value (←s)):Sem Next).run P w=.ok n w'):∃v,n=.value v:=by
 rw [Sem.run_bind] at h
 obtain⟨v,w1,h⟩:=then_ok h
 simp [Sem.run_pure] at h
 exact⟨v,h.1.symm⟩
theorem plain_value {P:Program} {o:Oper} {ρ:Operand→Value} (hp:plainOp o=true) (w w':World) (n:Next) (h:(execOp ρ o).run P w=.ok n w'):∃v,n=.value v:=by
 obtain⟨dst,op,type,pos,after,guard⟩:=o
 cases op<;>simp only [plainOp,Bool.false_eq_true] at hp<;>simp only [execOp] at h
 case move x=>simp [Sem.run_pure] at h;exact⟨_,h.1.symm⟩
 case assign x=>simp [Sem.run_pure] at h;exact⟨_,h.1.symm⟩
 case pick c a b =>
  rw [Sem.run_bind] at h
  obtain⟨v,w1,h⟩:=then_ok h
  simp [Sem.run_pure] at h
  exact⟨_,h.1.symm⟩
 case nilCheck x =>
  split at h
  ·simp [runtimePanic] at h
  ·simp [runtimePanic] at h
  ·simp [runtimePanic] at h
  ·split at h
   ·simp [runtimePanic] at h
   ·rw [Sem.run_bind] at h
    obtain⟨_,_,h⟩:=then_ok h
    rw [Sem.run_bind] at h
    obtain⟨_,_,h⟩:=then_ok h
    split at h
    ·rw [Sem.run_bind] at h
     obtain⟨_,_,h⟩:=then_ok h
     simp [Sem.run_pure] at h
     exact⟨_,h.1.symm⟩
    ·simp [Sem.run_pure] at h
     exact⟨_,h.1.symm⟩
   ·simp [Sem.run_pure] at h
    exact⟨_,h.1.symm⟩
  ·simp [Sem.run_pure] at h
   exact⟨_,h.1.symm⟩
 all_goals exact only_value P _ w w' n h
theorem plain_val {P:Program} {o:Oper} {a:Act} {C:World→Prop} {w:World} {v:Value} (hp:plainOp o=true) (h:o.quietAt P a C w v) :
  (execOp a.eval o).run P w=.ok (.value v) w:=by
 unfold Oper.quietAt at h
 have hn:=plain_value (P:=P) (ρ:=a.eval) hp w
 generalize (execOp a.eval o).run P w=r at *
 cases r with
 | ok n w' =>
  obtain⟨u,rfl⟩:=hn w' n rfl
  simp only [Oper.quietUpon] at h
  obtain⟨rfl,rfl⟩:=h
  rfl
 | halt x w'=>simp only [Oper.quietUpon] at h
theorem plain_res {P:Program} {o:Oper} {a:Act} {C:World→Prop} {w:World} {v:Value} (hp:plainOp o=true) (h:o.quietAt P a C w v) :
  (execOp a.eval o).run P w=.ok (.value v) w∨((execOp a.eval o).run P w=.ok .skip w∧v=undef):=Or.inl (plain_val hp h)
def kNj (P:Program) (post:Value→World→Prop):Result Next→Prop
 | .ok (.value u) w'=>post u w'
 | .ok .skip w'=>post undef w'
 | .ok (.enter f args) w'=>Calls P f args w' fun e w''=>∃u,e=.returned u∧post u w''
 | _=>False
theorem opqUpon_mono {P:Program} {post post':Value→World→Prop} {r:Result Next} (h:∀v w,post v w→post' v w) (hh:kNj P post r):kNj P post' r:=by
 cases r with
 | ok n w' =>
  cases n<;>simp only [kNj] at hh ⊢
  case value u=>exact h _ _ hh
  case skip=>exact h _ _ hh
  case enter f args=>exact hh.mono fun e w'' ⟨u,he,hp⟩=>⟨u,he,h _ _ hp⟩
 | halt x w'=>simp only [kNj] at hh
def DF (ops:Array Oper) (i:Nat):List Fact→World→Prop
 | [],_=>True
 | f::Fs,w=>(reach ops i f.idx=true→f.holds w)∧DF ops i Fs w
def AllHold:List Fact→World→Prop
 | [],_=>True
 | f::Fs,w=>f.holds w∧AllHold Fs w
theorem DF_iff {ops:Array Oper} {i:Nat} {Fs:List Fact} {w:World}:DF ops i Fs w↔∀f∈Fs,reach ops i f.idx=true→f.holds w:=by
 induction Fs with
 | nil=>simp [DF]
 | cons f Fs ih=>simp [DF,ih]
theorem AllHold_iff {Fs:List Fact} {w:World}:AllHold Fs w↔∀f∈Fs,f.holds w:=by
 induction Fs with
 | nil=>simp [AllHold]
 | cons f Fs ih=>simp [AllHold,ih]
def ownAll (Fs:List Fact):List Nat:=Fs.flatMap Fact.own
def Seg (P:Program) (ops:Array Oper) (W:World) (Cs As:List Nat) (K:List Fact→Act→Prop):List Nat→List Fact→Act→Prop
 | [],Fs,a=>K Fs a
 | i::l,Fs,a =>
  match ops[i]? with
  | none=>False
  | some o =>
   if Region.wanted o (yielded ops a.tmps)=true then
    if i∈As then
     ∃obj,(∀w,(execOp a.eval o).run P w=.ok (.value (.pointer (some ⟨w.heap.size,0,none⟩))) (w.alloc obj)) ∧
      ∀b,Seg P ops W Cs As K l (⟨i,[b],fun w=>w.heap[b]?=some obj⟩::Fs) (a.put o.dst (.pointer (some ⟨b,0,none⟩)))
    else if i∈Cs then
     (∃v,(∀w,Upto [] W w→DF ops i Fs w→kNj P (fun u w'=>Upto [] w w'∧u=v) ((execOp a.eval o).run P w))∧Seg P ops W Cs As K l Fs (a.put o.dst v)) ∨
     ∃(Y:Type) (mk:Y→Value) (Φ:Y→World→Prop) (own:Y→List Nat),Nonempty Y∧(∀y w w',Φ y w→Upto [] w w'→Φ y w')∧(∀y,(own y).Nodup) ∧
      (∀w,Upto [] W w→DF ops i Fs w→kNj P (fun v w'=>Upto [] w w'∧∃y,v=mk y∧Φ y w'∧∀b∈own y,w.heap.size≤b∧b<w'.heap.size) ((execOp a.eval o).run P w)) ∧
      ∀y,Seg P ops W Cs As K l (⟨i,own y,Φ y⟩::Fs) (a.put o.dst (mk y))
    else plainOp o=true∧∃C:World→Prop,(∀w,Upto [] W w→DF ops i Fs w→C w)∧o.quiet P a C (Seg P ops W Cs As K l Fs)
   else Seg P ops W Cs As K l Fs (a.put o.dst undef)
section
variable {P:Program} {ops:Array Oper} {W:World} {Cs As:List Nat} {K:List Fact→Act→Prop}
theorem Seg_perm (hK:∀Fs Fs' a,Fs.Perm Fs'→K Fs a→K Fs' a):∀(l:List Nat) (Fs Fs':List Fact) (a:Act),Fs.Perm Fs'→Seg P ops W Cs As K l Fs a→Seg P ops W Cs As K l Fs' a
 | [],Fs,Fs',a,hp,h=>hK _ _ _ hp h
 | i::l,Fs,Fs',a,hp,h=>by
  have hdf:∀{w},DF ops i Fs' w→DF ops i Fs w:=fun h=>DF_iff.2 fun f hf=>DF_iff.1 h f (hp.mem_iff.1 hf)
  unfold Seg at h ⊢
  split at h
  ·exact h
  ·rename_i o ho
   split at h
   ·rename_i hw
    rw [if_pos hw]
    split at h
    ·rename_i hA
     rw [if_pos hA]
     obtain⟨obj,h1,h2⟩:=h
     exact⟨obj,h1,fun b=>Seg_perm hK l _ _ _ (hp.cons _) (h2 b)⟩
    ·rename_i hA
     rw [if_neg hA]
     split at h
     ·rename_i hC
      rw [if_pos hC]
      rcases h with⟨v,h1,h2⟩ | ⟨Y,mk,Φ,own,hy,h1,h2,h3,h4⟩
      ·exact Or.inl ⟨v,fun w hw hd=>h1 w hw (hdf hd),Seg_perm hK l _ _ _ hp h2⟩
      ·exact Or.inr ⟨Y,mk,Φ,own,hy,h1,h2,fun w hw hd=>h3 w hw (hdf hd),fun v=>Seg_perm hK l _ _ _ (hp.cons _) (h4 v)⟩
     ·rename_i hC
      rw [if_neg hC]
      obtain⟨h1,C,h2,h3⟩:=h
      exact⟨h1,C,fun w hw hd=>h2 w hw (hdf hd),Oper.quiet_mono (fun a h=>Seg_perm hK l _ _ _ hp h) h3⟩
   ·rename_i hw
    rw [if_neg hw]
    exact Seg_perm hK l _ _ _ hp h
def Res (P:Program) (ops:Array Oper) (o:Oper) (a:Act) (w:World) (u:Value) (w':World):Prop :=
 if Region.wanted o (yielded ops a.tmps)=true then (execOp a.eval o).run P w=.ok (.value u) w'∨((execOp a.eval o).run P w=.ok .skip w'∧u=undef) else u=undef∧w'=w
def NF (j:Nat) (w w':World) (nf:List Fact):Prop :=
 (nf=[]∧w'=w)∨∃obj,w'=w.alloc obj∧nf=[⟨j,[w.heap.size],fun x=>x.heap[w.heap.size]?=some obj⟩]
theorem Res.unique {o:Oper} {a:Act} {w w1 w2:World} {u1 u2:Value} (h1:Res P ops o a w u1 w1) (h2:Res P ops o a w u2 w2):u1=u2∧w1=w2:=by
 unfold Res at h1 h2
 by_cases hw:Region.wanted o (yielded ops a.tmps)=true
 ·rw [if_pos hw] at h1 h2
  rcases h1 with h1 | ⟨h1,e1⟩<;>rcases h2 with h2 | ⟨h2,e2⟩
  ·rw [h1] at h2;cases h2;exact⟨rfl,rfl⟩
  ·rw [h1] at h2;cases h2
  ·rw [h1] at h2;cases h2
  ·rw [h1] at h2;cases h2;exact⟨e1.trans e2.symm,rfl⟩
 ·rw [if_neg hw] at h1 h2
  exact⟨h1.1.trans h2.1.symm,h1.2.trans h2.2.symm⟩
theorem alloc_inj {w:World} {o1 o2:Obj} (h:w.alloc o1=w.alloc o2):o1=o2:=by
 have h1:(w.heap.push o1)[w.heap.size]?=(w.heap.push o2)[w.heap.size]?:=congrArg (fun x:World=>x.heap[w.heap.size]?) h
 simpa using h1
theorem alloc_ne {w:World} {o:Obj} (h:w.alloc o=w):False:=by
 have h1:(w.heap.push o).size=w.heap.size:=congrArg (fun x:World=>x.heap.size) h
 simp at h1
theorem NF.unique {j:Nat} {w w':World} {n1 n2:List Fact} (h1:NF j w w' n1) (h2:NF j w w' n2):n1=n2:=by
 rcases h1 with⟨rfl,rfl⟩ | ⟨o1,rfl,rfl⟩<;>rcases h2 with⟨rfl,e⟩ | ⟨o2,e,rfl⟩
 ·rfl
 ·exact (alloc_ne e.symm).elim
 ·exact (alloc_ne e).elim
 ·rw [alloc_inj e]
theorem res_put (hsel:Region.noSelect ops=true) {j:Nat} {oj:Oper} (hj:ops[j]?=some oj) {a:Act} {dst:Option Tmp} {v:Value} (h:∀d,dst=some d→d∉oj.looksAt ops) {w w':World} {u:Value} :
  Res P ops oj (a.put dst v) w u w'↔Res P ops oj a w u w':=by
 unfold Res
 rw [execOp_put oj (fun cs b=>Region.noSelect_spec hsel j oj cs b hj) a dst v h,wanted_put oj a dst v h]
def waits (ops:Array Oper) (i j:Nat):Bool :=
 match ops[i]? with
 | some o=>o.after.any fun e=>Region.binds .any e&&e.on==j
 | none=>false
def before (ops:Array Oper) (Cs As:List Nat) (i j:Nat):Bool :=
 i != j&&!(waits ops i j)&&(waits ops j i||(match ops[i]?,ops[j]? with | some oi,some oj=>oi.apart ops oj | _,_=>false)) &&
  (!(Cs.contains j)||As.contains j||!(Cs.contains i||As.contains i)||reach ops j i)
def Head (P:Program) (ops:Array Oper) (W:World) (Cs As:List Nat) (i:Nat) (o:Oper) (Fs:List Fact) (a:Act) (N:List Fact→Act→Prop):Prop :=
 if Region.wanted o (yielded ops a.tmps)=true then
  if i∈As then
   ∃obj,(∀w,(execOp a.eval o).run P w=.ok (.value (.pointer (some ⟨w.heap.size,0,none⟩))) (w.alloc obj)) ∧
    ∀b,N (⟨i,[b],fun w=>w.heap[b]?=some obj⟩::Fs) (a.put o.dst (.pointer (some ⟨b,0,none⟩)))
  else if i∈Cs then
   (∃v,(∀w,Upto [] W w→DF ops i Fs w→kNj P (fun u w'=>Upto [] w w'∧u=v) ((execOp a.eval o).run P w))∧N Fs (a.put o.dst v)) ∨
   ∃(Y:Type) (mk:Y→Value) (Φ:Y→World→Prop) (own:Y→List Nat),Nonempty Y∧(∀y w w',Φ y w→Upto [] w w'→Φ y w')∧(∀y,(own y).Nodup) ∧
    (∀w,Upto [] W w→DF ops i Fs w→kNj P (fun v w'=>Upto [] w w'∧∃y,v=mk y∧Φ y w'∧∀b∈own y,w.heap.size≤b∧b<w'.heap.size) ((execOp a.eval o).run P w)) ∧
    ∀y,N (⟨i,own y,Φ y⟩::Fs) (a.put o.dst (mk y))
  else plainOp o=true∧∃C:World→Prop,(∀w,Upto [] W w→DF ops i Fs w→C w)∧o.quiet P a C (N Fs)
 else N Fs (a.put o.dst undef)
theorem kSj {i:Nat} {l:List Nat} {Fs:List Fact} {a:Act}:Seg P ops W Cs As K (i::l) Fs a↔∃o,ops[i]?=some o∧Head P ops W Cs As i o Fs a (Seg P ops W Cs As K l):=by
 constructor
 ·intro h
  unfold Seg at h
  split at h
  ·exact h.elim
  ·rename_i o ho
   exact⟨o,ho,h⟩
 ·rintro⟨o,ho,h⟩
  unfold Seg
  rw [ho]
  exact h
theorem moveN (hsel:Region.noSelect ops=true) (hK:∀Fs Fs' a,Fs.Perm Fs'→K Fs a→K Fs' a) {j:Nat} {oj:Oper} (hj:ops[j]?=some oj) (hjC:j∈Cs→j∈As) {w:World} (hw:Upto [] W w) {l2:List Nat} :
  ∀(l1:List Nat) (Fs:List Fact) (a:Act),(∀i∈l1,before ops Cs As i j=true∧waits ops j i=false∧reach ops j i=false)→DF ops j Fs w→Seg P ops W Cs As K (l1++j::l2) Fs a →
   ∃u w' nf,Res P ops oj a w u w'∧NF j w w' nf∧Seg P ops W Cs As K (l1++l2) (nf++Fs) (a.put oj.dst u)
 | [],Fs,a,_,hd,h=>by
  obtain⟨o,ho,h⟩:=kSj.1 h
  rw [hj] at ho
  cases ho
  unfold Head at h
  split at h
  ·rename_i hwt
   split at h
   ·obtain⟨obj,h1,h2⟩:=h
    exact⟨_,_,_,by unfold Res;rw [if_pos hwt];exact Or.inl (h1 w),Or.inr ⟨obj,rfl,rfl⟩,h2 _⟩
   ·rename_i hA
    rw [if_neg (fun hc=>hA (hjC hc))] at h
    obtain⟨hp,C,hC,v,h1,h2⟩:=h
    exact⟨v,w,[],by unfold Res;rw [if_pos hwt];exact plain_res hp (h1 w (hC w hw hd)),Or.inl ⟨rfl,rfl⟩,h2⟩
  ·rename_i hwt
   exact⟨undef,w,[],by unfold Res;rw [if_neg hwt];exact⟨rfl,rfl⟩,Or.inl ⟨rfl,rfl⟩,h⟩
 | i::l1,Fs,a,hall,hd,h=>by
  obtain⟨oi,hi,h⟩:=kSj.1 h
  obtain⟨hbf,hnw,hnr⟩:=hall i (by simp)
  have hap:oi.apart ops oj=true:=by
   simp only [before,hi,hj,Bool.and_eq_true,hnw,Bool.false_or] at hbf
   exact hbf.1.2
  obtain⟨h1,h2,h3⟩:=Oper.apart_spec hap
  have hrest:∀k∈l1,before ops Cs As k j=true∧waits ops j k=false∧reach ops j k=false:=fun k hk=>hall k (by simp [hk])
  have hsi:=fun cs b=>Region.noSelect_spec hsel i oi cs b hi
  -- what stands at i,behind j
  have hexec:∀u,execOp (a.put oj.dst u).eval oi=execOp a.eval oi:=fun u=>execOp_put oi hsi a oj.dst u h3
  have hwant:∀u,Region.wanted oi (yielded ops (a.put oj.dst u).tmps)=Region.wanted oi (yielded ops a.tmps):=fun u=>wanted_put oi a oj.dst u h3
  have hdf:∀{nf:List Fact} {x},DF ops i (nf++Fs) x→DF ops i Fs x:=fun hx=>DF_iff.2 fun f hf=>DF_iff.1 hx f (by simp [hf])
  show ∃u w' nf,Res P ops oj a w u w'∧NF j w w' nf∧Seg P ops W Cs As K (i::(l1++l2)) (nf++Fs) (a.put oj.dst u)
  unfold Head at h
  split at h
  ·rename_i hwt
   split at h
   ·rename_i hA
    obtain⟨obj,g1,g2⟩:=h
    have ih:=fun b=>moveN hsel hK hj hjC hw l1 _ _ hrest (show DF ops j (⟨i,[b],fun w=>w.heap[b]?=some obj⟩::Fs) w from⟨(fun hr=>by rw [hnr] at hr;cases hr),hd⟩) (g2 b)
    obtain⟨u,w',nf,r1,r2,_⟩:=ih 0
    refine⟨u,w',nf,(res_put hsel hj h1).1 r1,r2,kSj.2 ⟨oi,hi,?_⟩⟩
    unfold Head
    rw [hwant u,if_pos hwt,if_pos hA]
    refine⟨obj,fun x=>by rw [hexec u];exact g1 x,fun b=>?_⟩
    obtain⟨u',w'',nf',s1,s2,s3⟩:=ih b
    obtain⟨rfl,rfl⟩:=Res.unique ((res_put hsel hj h1).1 r1) ((res_put hsel hj h1).1 s1)
    obtain rfl:=NF.unique r2 s2
    rw [Act.put_comm _ _ _ h2] at s3
    exact Seg_perm hK _ _ _ _ List.perm_middle s3
   ·rename_i hA
    split at h
    ·rename_i hC
     rcases h with⟨v,g1,g2⟩ | ⟨Y,mk,Φ,own,hy,g1,g2,g3,g4⟩
     ·obtain⟨u,w',nf,r1,r2,r3⟩:=moveN hsel hK hj hjC hw l1 _ _ hrest hd g2
      refine⟨u,w',nf,(res_put hsel hj h1).1 r1,r2,kSj.2 ⟨oi,hi,?_⟩⟩
      unfold Head
      rw [hwant u,if_pos hwt,if_neg hA,if_pos hC]
      refine Or.inl ⟨v,fun x hx hdx=>by rw [hexec u];exact g1 x hx (hdf hdx),?_⟩
      rw [Act.put_comm _ _ _ h2] at r3
      exact r3
     have ih:=fun v=>moveN hsel hK hj hjC hw l1 _ _ hrest (show DF ops j (⟨i,own v,Φ v⟩::Fs) w from⟨(fun hr=>by rw [hnr] at hr;cases hr),hd⟩) (g4 v)
     obtain⟨y0⟩:=hy
     obtain⟨u,w',nf,r1,r2,_⟩:=ih y0
     refine⟨u,w',nf,(res_put hsel hj h1).1 r1,r2,kSj.2 ⟨oi,hi,?_⟩⟩
     unfold Head
     rw [hwant u,if_pos hwt,if_neg hA,if_pos hC]
     refine Or.inr ⟨Y,mk,Φ,own,⟨y0⟩,g1,g2,fun x hx hdx=>by rw [hexec u];exact g3 x hx (hdf hdx),fun v=>?_⟩
     obtain⟨u',w'',nf',s1,s2,s3⟩:=ih v
     obtain⟨rfl,rfl⟩:=Res.unique ((res_put hsel hj h1).1 r1) ((res_put hsel hj h1).1 s1)
     obtain rfl:=NF.unique r2 s2
     rw [Act.put_comm _ _ _ h2] at s3
     exact Seg_perm hK _ _ _ _ List.perm_middle s3
    ·rename_i hC
     obtain⟨hp,C,hC',v,g1,g2⟩:=h
     obtain⟨u,w',nf,r1,r2,r3⟩:=moveN hsel hK hj hjC hw l1 _ _ hrest hd g2
     refine⟨u,w',nf,(res_put hsel hj h1).1 r1,r2,kSj.2 ⟨oi,hi,?_⟩⟩
     unfold Head
     rw [hwant u,if_pos hwt,if_neg hA,if_neg hC]
     refine⟨hp,C,fun x hx hdx=>hC' x hx (hdf hdx),v,fun x hx=>by unfold Oper.quietAt;rw [hexec u];exact g1 x hx,?_⟩
     rw [Act.put_comm _ _ _ h2] at r3
     exact r3
  ·rename_i hwt
   obtain⟨u,w',nf,r1,r2,r3⟩:=moveN hsel hK hj hjC hw l1 _ _ hrest hd h
   refine⟨u,w',nf,(res_put hsel hj h1).1 r1,r2,kSj.2 ⟨oi,hi,?_⟩⟩
   unfold Head
   rw [hwant u,if_neg hwt]
   rw [Act.put_comm _ _ _ h2] at r3
   exact r3
def OutC (P:Program) (ops:Array Oper) (o:Oper) (a:Act) (w:World) (N:Value→World→Prop):Prop :=
 if Region.wanted o (yielded ops a.tmps)=true then kNj P N ((execOp a.eval o).run P w) else N undef w
theorem OutC.mono {o:Oper} {a:Act} {w:World} {N N':Value→World→Prop} (hh:OutC P ops o a w N) (h:∀u w',N u w'→N' u w'):OutC P ops o a w N':=by
 unfold OutC at *
 split
 ·rename_i hw;rw [if_pos hw] at hh;exact opqUpon_mono h hh
 ·rename_i hw;rw [if_neg hw] at hh;exact h _ _ hh
theorem outC_put (hsel:Region.noSelect ops=true) {j:Nat} {oj:Oper} (hj:ops[j]?=some oj) {a:Act} {dst:Option Tmp} {v:Value} (h:∀d,dst=some d→d∉oj.looksAt ops) {w:World} {N:Value→World→Prop} :
  OutC P ops oj (a.put dst v) w N↔OutC P ops oj a w N:=by
 unfold OutC
 rw [execOp_put oj (fun cs b=>Region.noSelect_spec hsel j oj cs b hj) a dst v h,wanted_put oj a dst v h]
def SC (j:Nat) (w w':World) (nf:List Fact):Prop :=
 Upto [] w w'∧(nf=[]∨∃f,nf=[f]∧f.idx=j∧f.holds w'∧(∀x x',f.holds x→Upto [] x x'→f.holds x')∧f.own.Nodup∧∀b∈f.own,w.heap.size≤b∧b<w'.heap.size)
theorem NF.sc {j:Nat} {w w':World} {nf:List Fact} (h:NF j w w' nf):SC j w w' nf:=by
 rcases h with⟨rfl,rfl⟩ | ⟨obj,rfl,rfl⟩
 ·exact⟨Upto.refl _ _,Or.inl rfl⟩
 ·refine⟨(Upto.refl _ _).alloc _,Or.inr ⟨_,rfl,rfl,?_,?_,?_,?_⟩⟩
  ·show (w.heap.push obj)[w.heap.size]?=some obj
   simp
  ·intro x x' hx hu
   exact (hu.block _ (Array.getElem?_eq_some_iff.1 hx).1 (by simp)).trans hx
  ·simp
  ·intro b hb
   simp at hb
   subst hb
   exact⟨Nat.le_refl _,by show _<(w.heap.push obj).size;simp⟩
theorem moveC (hsel:Region.noSelect ops=true) {j:Nat} {oj:Oper} (hj:ops[j]?=some oj) (hjC:j∈Cs) (hjA:j∉As) {w:World} (hw:Upto [] W w) {l2:List Nat} :
  ∀(l1:List Nat) (Fs:List Fact) (a:Act),(∀i∈l1,before ops Cs As i j=true∧waits ops j i=false∧reach ops j i=false)→DF ops j Fs w→Seg P ops W Cs As K (l1++j::l2) Fs a →
   OutC P ops oj a w fun u w'=>∃nf,SC j w w' nf∧Seg P ops W Cs As K (l1++l2) (nf++Fs) (a.put oj.dst u)
 | [],Fs,a,_,hd,h=>by
  obtain⟨o,ho,h⟩:=kSj.1 h
  rw [hj] at ho
  cases ho
  unfold Head at h
  unfold OutC
  split at h
  ·rename_i hwt
   rw [if_pos hwt]
   rcases h with⟨v,h1,h2⟩ | ⟨Y,mk,Φ,own,hy,h1,h2,h3,h4⟩
   ·exact opqUpon_mono (fun u x ⟨g1,g2⟩=>⟨[],⟨g1,Or.inl rfl⟩,by subst g2;exact h2⟩) (h1 w hw hd)
   ·exact opqUpon_mono (fun v x ⟨g1,y,g0,g2,g3⟩=>⟨[⟨j,own y,Φ y⟩],⟨g1,Or.inr ⟨_,rfl,rfl,g2,h1 y,h2 y,g3⟩⟩,by subst g0;exact h4 y⟩) (h3 w hw hd)
  ·rename_i hwt
   rw [if_neg hwt]
   exact⟨[],⟨Upto.refl _ _,Or.inl rfl⟩,h⟩
 | i::l1,Fs,a,hall,hd,h=>by
  obtain⟨oi,hi,h⟩:=kSj.1 h
  obtain⟨hbf,hnw,hnr⟩:=hall i (by simp)
  have hap:oi.apart ops oj=true:=by
   simp only [before,hi,hj,Bool.and_eq_true,hnw,Bool.false_or] at hbf
   exact hbf.1.2
  have hno:i∉Cs∧i∉As:=by
   simp only [before,Bool.and_eq_true,hnr,Bool.or_false,Bool.or_eq_true,Bool.not_eq_true'] at hbf
   have:=hbf.2
   have c1:Cs.contains j=true:=by simpa using hjC
   have c2:As.contains j=false:=by simpa using hjA
   rw [c1,c2] at this
   simp at this
   exact this
  obtain⟨h1,h2,h3⟩:=Oper.apart_spec hap
  have hrest:∀k∈l1,before ops Cs As k j=true∧waits ops j k=false∧reach ops j k=false:=fun k hk=>hall k (by simp [hk])
  have hsi:=fun cs b=>Region.noSelect_spec hsel i oi cs b hi
  have hexec:∀u,execOp (a.put oj.dst u).eval oi=execOp a.eval oi:=fun u=>execOp_put oi hsi a oj.dst u h3
  have hwant:∀u,Region.wanted oi (yielded ops (a.put oj.dst u).tmps)=Region.wanted oi (yielded ops a.tmps):=fun u=>wanted_put oi a oj.dst u h3
  have hdf:∀{nf:List Fact} {x},DF ops i (nf++Fs) x→DF ops i Fs x:=fun hx=>DF_iff.2 fun f hf=>DF_iff.1 hx f (by simp [hf])
  show OutC P ops oj a w fun u w'=>∃nf,SC j w w' nf∧Seg P ops W Cs As K (i::(l1++l2)) (nf++Fs) (a.put oj.dst u)
  unfold Head at h
  split at h
  ·rename_i hwt
   rw [if_neg hno.2,if_neg hno.1] at h
   obtain⟨hp,C,hC',v,g1,g2⟩:=h
   refine ((outC_put hsel hj h1).1 (moveC hsel hj hjC hjA hw l1 _ _ hrest hd g2)).mono ?_
   rintro u w' ⟨nf,r1,r2⟩
   refine⟨nf,r1,kSj.2 ⟨oi,hi,?_⟩⟩
   unfold Head
   rw [hwant u,if_pos hwt,if_neg hno.2,if_neg hno.1]
   refine⟨hp,C,fun x hx hdx=>hC' x hx (hdf hdx),v,fun x hx=>by unfold Oper.quietAt;rw [hexec u];exact g1 x hx,?_⟩
   rw [Act.put_comm _ _ _ h2] at r2
   exact r2
  ·rename_i hwt
   refine ((outC_put hsel hj h1).1 (moveC hsel hj hjC hjA hw l1 _ _ hrest hd h)).mono ?_
   rintro u w' ⟨nf,r1,r2⟩
   refine⟨nf,r1,kSj.2 ⟨oi,hi,?_⟩⟩
   unfold Head
   rw [hwant u,if_neg hwt]
   rw [Act.put_comm _ _ _ h2] at r2
   exact r2
structure Good (W:World) (Fs:List Fact) (w:World):Prop where
 up:Upto [] W w
 hold:AllHold Fs w
 stab:∀f∈Fs,∀x x',f.holds x→Upto [] x x'→f.holds x'
 inb:∀f∈Fs,∀b∈f.own,W.heap.size≤b∧b<w.heap.size
 nodup:(ownAll Fs).Nodup
theorem Good.step {Fs nf:List Fact} {j:Nat} {w w':World} (h:Good W Fs w) (hs:SC j w w' nf):Good W (nf++Fs) w':=by
 obtain⟨hu,hn⟩:=hs
 have hold':AllHold Fs w':=AllHold_iff.2 fun f hf=>h.stab f hf _ _ (AllHold_iff.1 h.hold f hf) hu
 have inb':∀f∈Fs,∀b∈f.own,W.heap.size≤b∧b<w'.heap.size:=fun f hf b hb=>⟨(h.inb f hf b hb).1,Nat.lt_of_lt_of_le (h.inb f hf b hb).2 hu.size⟩
 rcases hn with rfl | ⟨f,rfl,_,h2,h3,h4,h5⟩
 ·exact⟨h.up.trans_same hu,hold',h.stab,inb',h.nodup⟩
 ·refine⟨h.up.trans_same hu,⟨h2,hold'⟩,?_,?_,?_⟩
  ·intro g hg
   rcases List.mem_cons.1 hg with rfl | hg
   ·exact h3
   ·exact h.stab g hg
  ·intro g hg
   rcases List.mem_cons.1 hg with rfl | hg
   ·exact fun b hb=>⟨Nat.le_trans h.up.size (h5 b hb).1,(h5 b hb).2⟩
   ·exact inb' g hg
  ·show (f.own++ownAll Fs).Nodup
   refine List.nodup_append.2 ⟨h4,h.nodup,fun b hb c hc=>?_⟩
   obtain⟨g,hg,hgc⟩:=List.mem_flatMap.1 hc
   have h6:=(h5 b hb).1
   have h7:=(h.inb g hg c hgc).2
   omega
theorem wpOp_of_res {Q:Exit→Act→World→Prop} {j:Nat} {oj:Oper} (hj:ops[j]?=some oj) {a:Act} {w w':World} {u:Value} {N:Act→World→Prop} (h:Res P ops oj a w u w') (hN:N (a.put oj.dst u) w'):wpOp P ops Q j N a w:=by
 unfold wpOp
 rw [hj]
 unfold Res at h
 by_cases hw:Region.wanted oj (yielded ops a.tmps)=true
 ·simp only [hw,if_true] at h ⊢
  refine Or.inl ?_
  unfold Oper.wp
  rcases h with h | ⟨h,rfl⟩
  ·rw [h];exact hN
  ·rw [h];exact hN
 ·rw [if_neg hw] at h
  obtain⟨rfl,rfl⟩:=h
  simp only [hw]
  exact hN
theorem wpOp_of_out {Q:Exit→Act→World→Prop} {j:Nat} {oj:Oper} (hj:ops[j]?=some oj) {a:Act} {w:World} {N:Act→World→Prop} (h:OutC P ops oj a w fun u w'=>N (a.put oj.dst u) w'):wpOp P ops Q j N a w:=by
 unfold wpOp
 rw [hj]
 unfold OutC at h
 by_cases hw:Region.wanted oj (yielded ops a.tmps)=true
 ·simp only [hw,if_true] at h ⊢
  refine Or.inl ?_
  unfold Oper.wp
  generalize (execOp a.eval oj).run P w=r at *
  cases r with
  | ok n w' =>
   cases n<;>simp only [kNj] at h<;>simp only [Oper.upon]
   case value u=>exact h
   case skip=>exact h
   case enter f args=>exact h.mono fun e w'' ⟨u,he,hp⟩=>by subst he;exact hp
  | halt x w'=>simp only [kNj] at h
 ·rw [if_neg hw] at h
  simp only [hw]
  exact h
theorem waits_true {i j:Nat} {o:Oper} (hi:ops[i]?=some o) {e:Edge} (he:e∈o.after) (hb:Region.binds .any e=true) (hj:e.on=j):waits ops i j=true:=by
 unfold waits
 rw [hi]
 exact Array.any_eq_true'.2 ⟨e,he,by simp [hb,hj]⟩
theorem listed_lt {listed:Array Bool} {i:Nat} (h:i<listed.size):(listed.getD i true=false↔¬listed.getD i false=true):=by
 simp [h]
theorem foldl_move (l2:List Nat) (j:Nat):∀(l1:List Nat) (listed:Array Bool),(∀i∈l1,i≠j)→(l1++l2).foldl (fun x i=>x.setIfInBounds i true) (listed.setIfInBounds j true)=(l1++j::l2).foldl (fun x i=>x.setIfInBounds i true) listed
 | [],_,_=>rfl
 | i::l1,listed,h=>by
  show (l1++l2).foldl _ ((listed.setIfInBounds j true).setIfInBounds i true)=(l1++j::l2).foldl _ (listed.setIfInBounds i true)
  rw [Array.setIfInBounds_comm _ _ (Ne.symm (h i (by simp)))]
  exact foldl_move l2 j l1 _ fun k hk=>h k (by simp [hk])
structure Fit (ops:Array Oper) (Cs As:List Nat) (l:List Nat) (listed:Array Bool):Prop where
 size:listed.size=ops.size
 closed:Closed ops listed
 un:∀i∈l,i<ops.size∧listed.getD i false=false
 deps:∀i∈l,∀o,ops[i]?=some o→∀e∈o.after,Region.binds .any e=true→listed.getD e.on false=true∨(e.on∈l∧e.on≠i)
 others:∀k,k<ops.size→listed.getD k false=false→k∉l→∀i∈l,reach ops k i=true
 pairs:l.Pairwise fun i j=>before ops Cs As i j=true
theorem getD_set {listed:Array Bool} {i k:Nat} (h:i<listed.size):(listed.setIfInBounds i true).getD k false=(listed.getD k false||decide (k=i)):=by
 by_cases hk:k=i
 ·subst hk;simp [h]
 ·rw [getD_set_ne false (Ne.symm hk)];simp [hk]
theorem Fit.step {l1 l2:List Nat} {j:Nat} {oj:Oper} {listed:Array Bool} (h:Fit ops Cs As (l1++j::l2) listed) (hj:ops[j]?=some oj) (hd:∀e∈oj.after,Region.binds .any e=true→listed.getD e.on false=true):Fit ops Cs As (l1++l2) (listed.setIfInBounds j true):=by
 have hjm:j∈l1++j::l2:=by simp
 have hjl:j<listed.size:=by rw [h.size];exact (h.un j hjm).1
 have hsub:∀i∈l1++l2,i∈l1++j::l2:=fun i hi=>by rcases List.mem_append.1 hi with hi | hi<;>simp [hi]
 have hne:∀i∈l1++l2,i≠j:=by
  intro i hi he
  subst he
  have hp:=h.pairs
  rw [List.pairwise_append] at hp
  rcases List.mem_append.1 hi with hi | hi
  ·have:=hp.2.2 i hi i (by simp)
   simp [before] at this
  ·have:=(List.pairwise_cons.1 hp.2.1).1 i hi
   simp [before] at this
 refine⟨by simp [h.size],?_,?_,?_,?_,?_⟩
 ·intro i o ho hl e he hb
  rw [getD_set hjl] at hl ⊢
  rw [Bool.or_eq_true] at hl ⊢
  rcases hl with hl | hl
  ·exact Or.inl (h.closed i o ho hl e he hb)
  ·simp at hl
   subst hl
   rw [hj] at ho
   cases ho
   exact Or.inl (hd e he hb)
 ·intro i hi
  refine⟨(h.un i (hsub i hi)).1,?_⟩
  rw [getD_set hjl,(h.un i (hsub i hi)).2]
  simp [hne i hi]
 ·intro i hi o ho e he hb
  rw [getD_set hjl]
  rcases h.deps i (hsub i hi) o ho e he hb with h1 | ⟨h1,h2⟩
  ·exact Or.inl (by rw [h1];rfl)
  ·by_cases hej:e.on=j
   ·exact Or.inl (by simp [hej])
   ·refine Or.inr ⟨?_,h2⟩
    rcases List.mem_append.1 h1 with h1 | h1
    ·simp [h1]
    ·rcases List.mem_cons.1 h1 with h1 | h1
     ·exact absurd h1 hej
     ·simp [h1]
 ·intro k hk hun hkl i hi
  rw [getD_set hjl,Bool.or_eq_false_iff] at hun
  refine h.others k hk hun.1 (fun hm=>?_) i (hsub i hi)
  have hkj:k≠j:=by simpa using hun.2
  rcases List.mem_append.1 hm with hm | hm
  ·exact hkl (by simp [hm])
  ·rcases List.mem_cons.1 hm with hm | hm
   ·exact hkj hm
   ·exact hkl (by simp [hm])
 ·exact h.pairs.sublist (List.Sublist.append_left (List.sublist_cons_self _ _) _)
theorem seg_any {Q:Exit→Act→World→Prop} (hsel:Region.noSelect ops=true) (hK:∀Fs Fs' a,Fs.Perm Fs'→K Fs a→K Fs' a) {fuelT:Nat} {listedT:Array Bool}
  (hfin:∀Fs a w,K Fs a→Good W Fs w→wpAny P .any ops Q fuelT listedT a w) :
  ∀(n:Nat) (l:List Nat) (Fs:List Fact) (a:Act) (w:World) (listed:Array Bool),l.length=n→Fit ops Cs As l listed→l.foldl (fun x i=>x.setIfInBounds i true) listed=listedT→Good W Fs w→Seg P ops W Cs As K l Fs a →
   wpAny P .any ops Q (n+fuelT) listed a w:=by
 intro n
 induction n with
 | zero =>
  intro l Fs a w listed hl _ hT hg hs
  obtain rfl:=List.length_eq_zero_iff.1 hl
  cases hT
  rw [Nat.zero_add]
  exact hfin Fs a w hs hg
 | succ n ih =>
  intro l Fs a w listed hl hF hT hg hs
  obtain⟨i0,l',rfl⟩:∃i l',l=i::l':=by cases l with | nil=>simp at hl | cons i l'=>exact⟨i,l',rfl⟩
  have h0:=hF.un i0 (by simp)
  have hr0:i0∈Region.ready .any ops listed:=by
   refine mem_ready.2 ⟨(listed_lt (by rw [hF.size];exact h0.1)).2 (by rw [h0.2];simp),ops[i0]'h0.1,Array.getElem?_eq_getElem h0.1,fun e he hb=>?_⟩
   rcases hF.deps i0 (by simp) _ (Array.getElem?_eq_getElem h0.1) e he hb with h1 | ⟨h1,h2⟩
   ·exact h1
   ·have hm:e.on∈l':=by
     rcases List.mem_cons.1 h1 with h1 | h1
     ·exact absurd h1 h2
     ·exact h1
    have hp:=(List.pairwise_cons.1 hF.pairs).1 _ hm
    have hwt:=waits_true (Array.getElem?_eq_getElem h0.1) he hb rfl
    simp [before,hwt] at hp
  rw [Nat.succ_add]
  refine⟨(fun hn=>by rw [hn] at hr0;cases hr0),fun j hj=>?_⟩
  obtain⟨hjun,oj,hoj,hall⟩:=mem_ready.1 hj
  have hjlt:j<ops.size:=(Array.getElem?_eq_some_iff.1 hoj).1
  have hjf:listed.getD j false=false:=by
   have:=(listed_lt (listed:=listed) (by rw [hF.size];exact hjlt)).1 hjun
   simpa using this
  have hreach:∀i,reach ops j i=true→listed.getD i false=true:=fun i hr=>reach_listed hF.closed (j+1) j oj (by omega) hoj hall hr
  have hjl:j∈i0::l':=by
   by_cases hm:j∈i0::l'
   ·exact hm
   ·have:=hreach i0 (hF.others j hjlt hjf hm i0 (by simp))
    rw [h0.2] at this
    cases this
  obtain⟨l1,l2,hsplit⟩:=List.append_of_mem hjl
  rw [hsplit] at hF hT hs hl
  have hcond:∀i∈l1,before ops Cs As i j=true∧waits ops j i=false∧reach ops j i=false:=by
   intro i hi
   have hun:=(hF.un i (by simp [hi])).2
   refine⟨(List.pairwise_append.1 hF.pairs).2.2 i hi j (by simp),?_,?_⟩
   ·cases hwt:waits ops j i with
    | false=>rfl
    | true =>
     unfold waits at hwt
     rw [hoj] at hwt
     obtain⟨e,he,hb⟩:=Array.any_eq_true'.1 hwt
     simp only [Bool.and_eq_true,beq_iff_eq] at hb
     have:=hall e he hb.1
     rw [hb.2,hun] at this
     cases this
   ·cases hr:reach ops j i with
    | false=>rfl
    | true =>
     have:=hreach i hr
     rw [hun] at this
     cases this
  have hne:∀i∈l1,i≠j:=fun i hi he=>by
   have:=(hcond i hi).1
   simp [before,he] at this
  have hdf:DF ops j Fs w:=DF_iff.2 fun f hf _=>AllHold_iff.1 hg.hold f hf
  have hF':=hF.step hoj hall
  have hT':(l1++l2).foldl (fun x i=>x.setIfInBounds i true) (listed.setIfInBounds j true)=listedT:=by rw [foldl_move l2 j l1 listed hne];exact hT
  have hl':(l1++l2).length=n:=by
   simp at hl ⊢
   omega
  by_cases hjc:j∈Cs∧j∉As
  ·refine wpOp_of_out hoj ((moveC hsel hoj hjc.1 hjc.2 hg.up l1 Fs a hcond hdf hs).mono ?_)
   rintro u w' ⟨nf,h1,h2⟩
   exact ih _ _ _ _ _ hl' hF' hT' (hg.step h1) h2
  ·obtain⟨u,w',nf,h1,h2,h3⟩:=moveN hsel hK hoj (fun hc=>by
    refine Classical.byContradiction fun hn=>hjc ⟨hc,hn⟩) hg.up l1 Fs a hcond hdf hs
   exact wpOp_of_res hoj h1 (ih _ _ _ _ _ hl' hF' hT' (hg.step h2.sc) h3)
theorem Good.perm {Fs Fs':List Fact} {w:World} (hp:Fs.Perm Fs') (h:Good W Fs' w):Good W Fs w :=
 ⟨h.up,AllHold_iff.2 fun f hf=>AllHold_iff.1 h.hold f (hp.mem_iff.1 hf),fun f hf=>h.stab f (hp.mem_iff.1 hf),fun f hf=>h.inb f (hp.mem_iff.1 hf),(hp.flatMap_right _).nodup_iff.2 h.nodup⟩
def tailB (ops:Array Oper):Array Bool→List Nat→Bool
 | listed,[]=>(Region.ready .any ops listed).isEmpty
 | listed,i::l=>(Region.ready .any ops listed==[i])&&tailB ops (listed.setIfInBounds i true) l
theorem wpAny_tail {Q:Exit→Act→World→Prop}:∀(l:List Nat) (listed:Array Bool) (a:Act) (w:World),tailB ops listed l=true→wpOps P ops Q l a w→wpAny P .any ops Q l.length listed a w
 | [],listed,a,w,hB,h=>⟨by simpa [tailB] using hB,h⟩
 | i::l,listed,a,w,hB,h=>by
  simp only [tailB,Bool.and_eq_true,beq_iff_eq] at hB
  refine⟨(fun hn=>by rw [hB.1] at hn;cases hn),fun j hj=>?_⟩
  rw [hB.1] at hj
  obtain rfl:=List.mem_singleton.1 hj
  rw [wpOps_cons] at h
  exact wpOp_mono (fun a' w' h'=>wpAny_tail l _ a' w' hB.2 h') h
theorem wpOps_list {Q:Exit→Act→World→Prop}:∀(l:List Nat) (os:List Oper),l.map (fun i=>ops[i]?)=os.map some→wpOps P ops Q l=wpList P ops Q os
 | [],[],_=>by funext a w;simp [wpOps,wpList]
 | [],_::_,h=>by simp at h
 | _::_,[],h=>by simp at h
 | i::l,o::os,h=>by
  simp only [List.map_cons,List.cons.injEq] at h
  funext a w
  simp only [wpOps,wpList,h.1,wpOps_list l os h.2]
def pairsB (ops:Array Oper) (Cs As:List Nat):List Nat→Bool
 | []=>true
 | i::l=>l.all (fun j=>before ops Cs As i j)&&pairsB ops Cs As l
theorem pairsB_spec:∀(l:List Nat),pairsB ops Cs As l=true→l.Pairwise fun i j=>before ops Cs As i j=true
 | [],_=>List.Pairwise.nil
 | i::l,h=>by
  simp only [pairsB,Bool.and_eq_true,List.all_eq_true] at h
  exact List.Pairwise.cons h.1 (pairsB_spec l h.2)
def segB (ops:Array Oper) (Cs As ord tail:List Nat):Bool :=
 Region.noSelect ops&&pairsB ops Cs As ord&&(ord.length+tail.length==ops.size) &&
 ord.all (fun i=>match ops[i]? with | some o=>o.after.all fun e=>!(Region.binds .any e)||(ord.contains e.on&&e.on != i) | none=>false) &&
 (List.range ops.size).all (fun k=>ord.contains k||ord.all fun i=>reach ops k i) &&
 tailB ops (ord.foldl (fun x i=>x.setIfInBounds i true) (Array.replicate ops.size false)) tail
theorem wp_region_seg {id:Nat} {Q:Exit→Act→World→Prop} {a:Act} {w:World} {l:List Oper} (Cs As ord tail:List Nat) (tl:List Oper) (hm:P.follows .mixedOrders=true)
  (hB:segB l.toArray Cs As ord tail=true) (ht:tail.map (fun i=>l.toArray[i]?)=tl.map some)
  (h:Seg P l.toArray w Cs As (fun Fs a'=>∀w',Good w Fs w'→wpList P l.toArray Q tl a' w') ord [] a):(Code.region id l.toArray true).wp P Q a w:=by
 simp only [segB,Bool.and_eq_true,List.all_eq_true,beq_iff_eq] at hB
 obtain⟨⟨⟨⟨⟨h1,h2⟩,h3⟩,h4⟩,h5⟩,h6⟩:=hB
 refine wp_region_any hm ?_
 have hrep:∀k,(Array.replicate l.toArray.size false).getD k false=false:=by
  intro k
  simp [Array.getD]
 have hs:=seg_any (P:=P) (ops:=l.toArray) (W:=w) (Cs:=Cs) (As:=As) (Q:=Q) (K:=fun Fs a'=>∀w',Good w Fs w'→wpList P l.toArray Q tl a' w') h1 (fun Fs Fs' a hp hk w' hg=>hk w' (hg.perm hp)) (fuelT:=tail.length)
  (listedT:=ord.foldl (fun x i=>x.setIfInBounds i true) (Array.replicate l.toArray.size false))
  (fun Fs a w' hk hg=>wpAny_tail tail _ a w' h6 (by rw [wpOps_list tail tl ht];exact hk w' hg)) ord.length ord [] a { w with drawn:=w.drawn+1 } (Array.replicate l.toArray.size false) rfl ?_ rfl ⟨(Upto.refl [] w).drew,trivial,(by simp),(by simp),(by simp [ownAll])⟩ h
 ·rw [h3] at hs
  exact hs
 ·refine⟨by simp,?_,?_,?_,?_,pairsB_spec _ h2⟩
  ·intro i o _ hl
   rw [hrep] at hl
   cases hl
  ·intro i hi
   refine⟨?_,hrep i⟩
   have:=h4 i hi
   split at this
   ·rename_i o ho
    exact (Array.getElem?_eq_some_iff.1 ho).1
   ·cases this
  ·intro i hi o ho e he hb
   have:=h4 i hi
   rw [ho] at this
   have:=Array.all_eq_true_iff_forall_mem.1 this e he
   rw [hb] at this
   simp at this
   exact Or.inr this
  ·intro k hk _ hn i hi
   have:=h5 k (List.mem_range.2 hk)
   simp [hn] at this
   exact this i hi
theorem kFk {id:Nat} {Q:Exit→Act→World→Prop} {a:Act} {w:World} {l:List Oper} (Cs As ord tail:List Nat) (n:Nat) (hm:P.follows .mixedOrders=true)
  (hB:segB l.toArray Cs As ord tail=true) (ht:(tail==(List.range l.length).drop n)=true)
  (h:Seg P l.toArray w Cs As (fun Fs a'=>∀w',Good w Fs w'→wpList P l.toArray Q (l.drop n) a' w') ord [] a):(Code.region id l.toArray true).wp P Q a w :=
 wp_region_seg Cs As ord tail _ hm hB (by
  rw [beq_iff_eq] at ht
  subst ht
  apply List.ext_getElem?
  intro i
  by_cases hi:n+i<l.length
  ·simp [List.getElem?_drop,hi]
  ·simp [List.getElem?_drop,hi]) h
theorem kFx {id:Nat} {Q:Exit→Act→World→Prop} {a:Act} {w:World} {l:List Oper} (Cs As ord:List Nat) (hm:P.follows .mixedOrders=true)
  (hB:segB l.toArray Cs As ord []=true) (h:Seg P l.toArray w Cs As (fun Fs a'=>∀w',Good w Fs w'→Q .normal a' w') ord [] a):(Code.region id l.toArray true).wp P Q a w :=
 wp_region_seg Cs As ord [] [] hm hB rfl h
def wpPre (P:Program) (ops:Array Oper) (K:Act→Prop):List Nat→Act→Prop
 | [],a=>K a
 | i::l,a=>∃o,ops[i]?=some o∧Region.wanted o (yielded ops a.tmps)=true∧plainOp o=true∧o.quiet P a (fun _=>True) (wpPre P ops K l)
def preB (ops:Array Oper):List Nat→Array Bool→Bool
 | [],_=>true
 | i::l,listed=>Region.free .any ops listed i&&(Region.ready .any ops listed).contains i&&preB ops l (listed.setIfInBounds i true)
theorem pre_any {Q:Exit→Act→World→Prop} (hQ:∀c a d v w,Q (.panic c) (Act.put a d v) w→Q (.panic c) a w) (hs:Region.noSelect ops=true) {K:Act→Prop} {w:World} {fuel:Nat} {listedT:Array Bool}
  (hK:∀a,K a→wpAny P .any ops Q fuel listedT a w) :
  ∀(l:List Nat) (listed:Array Bool) (a:Act),preB ops l listed=true→l.foldl (fun x i=>x.setIfInBounds i true) listed=listedT→wpPre P ops K l a→wpAny P .any ops Q (l.length+fuel) listed a w
 | [],listed,a,_,hT,h=>by cases hT;simpa using hK a h
 | i::l,listed,a,hB,hT,h=>by
  obtain⟨o,ho,hw,hp,v,h1,h2⟩:=h
  simp only [preB,Bool.and_eq_true] at hB
  rw [List.length_cons,Nat.succ_add]
  refine wpAny_take ho hs hB.1.1 hB.1.2 (fun c a w h=>hQ c a _ _ w h) (Or.inl ⟨hw,fun x=>?_⟩) (pre_any hQ hs hK l _ _ hB.2 hT h2)
  exact plain_val hp (h1 x trivial)
def closedB (ops:Array Oper) (pre:List Nat):Bool :=
 (List.range ops.size).all fun i=>!(pre.contains i)||(match ops[i]? with | some o=>o.after.all fun e=>!(Region.binds .any e)||pre.contains e.on | none=>true)
def segPB (ops:Array Oper) (Cs As pre ord tail:List Nat):Bool :=
 Region.noSelect ops&&pairsB ops Cs As ord&&(pre.length+(ord.length+tail.length)==ops.size)&&preB ops pre (Array.replicate ops.size false)&&closedB ops pre&&pre.all (fun i=>decide (i<ops.size)) &&
 ord.all (fun i=>!(pre.contains i)&&match ops[i]? with | some o=>o.after.all fun e=>!(Region.binds .any e)||pre.contains e.on||(ord.contains e.on&&e.on != i) | none=>false) &&
 (List.range ops.size).all (fun k=>pre.contains k||ord.contains k||ord.all fun i=>reach ops k i) &&
 tailB ops (ord.foldl (fun x i=>x.setIfInBounds i true) (pre.foldl (fun x i=>x.setIfInBounds i true) (Array.replicate ops.size false))) tail
theorem foldl_getD (l:List Nat):∀(listed:Array Bool) (k:Nat),(∀i∈l,i<listed.size)→(l.foldl (fun x i=>x.setIfInBounds i true) listed).getD k false=(listed.getD k false||l.contains k):=by
 induction l with
 | nil=>intro listed k _;simp
 | cons i l ih =>
  intro listed k h
  rw [List.foldl_cons,ih _ _ (by intro j hj;rw [Array.size_setIfInBounds];exact h j (by simp [hj])),getD_set (h i (by simp)),List.contains_cons,Bool.or_assoc]
  congr 1
theorem foldl_size (l:List Nat):∀(listed:Array Bool),(l.foldl (fun x i=>x.setIfInBounds i true) listed).size=listed.size:=by
 induction l with
 | nil=>intro listed;rfl
 | cons i l ih=>intro listed;rw [List.foldl_cons,ih,Array.size_setIfInBounds]
theorem wp_region_segP {id:Nat} {Q:Exit→Act→World→Prop} {a:Act} {w:World} {l:List Oper} (Cs As pre ord tail:List Nat) (tl:List Oper) (hQ:∀c a d v w,Q (.panic c) (Act.put a d v) w→Q (.panic c) a w) (hm:P.follows .mixedOrders=true)
  (hB:segPB l.toArray Cs As pre ord tail=true) (ht:tail.map (fun i=>l.toArray[i]?)=tl.map some)
  (h:wpPre P l.toArray (Seg P l.toArray w Cs As (fun Fs a'=>∀w',Good w Fs w'→wpList P l.toArray Q tl a' w') ord []) pre a):(Code.region id l.toArray true).wp P Q a w:=by
 simp only [segPB,Bool.and_eq_true,List.all_eq_true,beq_iff_eq] at hB
 obtain⟨⟨⟨⟨⟨⟨⟨⟨h1,h2⟩,h3⟩,hp1⟩,hp2⟩,hp3⟩,h4⟩,h5⟩,h6⟩:=hB
 refine wp_region_any hm ?_
 have hrep:∀k,(Array.replicate l.toArray.size false).getD k false=false:=by
  intro k
  simp [Array.getD]
 have hin:∀i∈pre,i<(Array.replicate l.toArray.size false).size:=fun i hi=>by
  have:=hp3 i hi
  simpa using this
 have hl0:∀k,(pre.foldl (fun x i=>x.setIfInBounds i true) (Array.replicate l.toArray.size false)).getD k false=pre.contains k:=fun k=>by
  rw [foldl_getD _ _ _ hin,hrep,Bool.false_or]
 have main:=pre_any (P:=P) (ops:=l.toArray) (Q:=Q) hQ h1 (w:={ w with drawn:=w.drawn+1 }) (fuel:=ord.length+tail.length) (listedT:=pre.foldl (fun x i=>x.setIfInBounds i true) (Array.replicate l.toArray.size false))
  (K:=Seg P l.toArray w Cs As (fun Fs a'=>∀w',Good w Fs w'→wpList P l.toArray Q tl a' w') ord []) (fun a hs=>?_) pre _ a hp1 rfl h
 ·rw [h3] at main
  exact main
 refine seg_any (P:=P) (ops:=l.toArray) (W:=w) (Cs:=Cs) (As:=As) (Q:=Q) (K:=fun Fs a'=>∀w',Good w Fs w'→wpList P l.toArray Q tl a' w') h1 (fun Fs Fs' a hp hk w' hg=>hk w' (hg.perm hp)) (fuelT:=tail.length)
  (listedT:=ord.foldl (fun x i=>x.setIfInBounds i true) (pre.foldl (fun x i=>x.setIfInBounds i true) (Array.replicate l.toArray.size false)))
  (fun Fs a w' hk hg=>wpAny_tail tail _ a w' h6 (by rw [wpOps_list tail tl ht];exact hk w' hg)) ord.length ord [] a _ _ rfl ?_ rfl ⟨(Upto.refl [] w).drew,trivial,(by simp),(by simp),(by simp [ownAll])⟩ hs
 refine⟨by rw [foldl_size];simp,?_,?_,?_,?_,pairsB_spec _ h2⟩
 ·intro i o ho hl e he hb
  rw [hl0] at hl ⊢
  have:=List.all_eq_true.1 hp2 i (List.mem_range.2 (Array.getElem?_eq_some_iff.1 ho).1)
  rw [hl,ho,Bool.not_true,Bool.false_or] at this
  have:=Array.all_eq_true_iff_forall_mem.1 this e he
  rw [hb] at this
  simpa using this
 ·intro i hi
  have:=h4 i hi
  refine⟨?_,by rw [hl0];simpa using this.1⟩
  have:=this.2
  split at this
  ·rename_i o ho
   exact (Array.getElem?_eq_some_iff.1 ho).1
  ·cases this
 ·intro i hi o ho e he hb
  have:=(h4 i hi).2
  rw [ho] at this
  have:=Array.all_eq_true_iff_forall_mem.1 this e he
  rw [hb] at this
  rw [hl0]
  simpa using this
 ·intro k hk hu hn i hi
  rw [hl0] at hu
  have:=h5 k (List.mem_range.2 hk)
  rw [hu] at this
  simp [hn] at this
  exact this i hi
theorem wp_region_segP_at {id:Nat} {Q:Exit→Act→World→Prop} {a:Act} {w:World} {l:List Oper} (Cs As pre ord tail:List Nat) (n:Nat) (hQ:∀c a d v w,Q (.panic c) (Act.put a d v) w→Q (.panic c) a w) (hm:P.follows .mixedOrders=true)
  (hB:segPB l.toArray Cs As pre ord tail=true) (ht:(tail==(List.range l.length).drop n)=true)
  (h:wpPre P l.toArray (Seg P l.toArray w Cs As (fun Fs a'=>∀w',Good w Fs w'→wpList P l.toArray Q (l.drop n) a' w') ord []) pre a):(Code.region id l.toArray true).wp P Q a w :=
 wp_region_segP Cs As pre ord tail _ hQ hm hB (by
  rw [beq_iff_eq] at ht
  subst ht
  apply List.ext_getElem?
  intro i
  by_cases hi:n+i<l.length
  ·simp [List.getElem?_drop,hi]
  ·simp [List.getElem?_drop,hi]) h
/-! the moves -/
def opAt:List Oper→Nat→Option Oper
 | [],_=>none
 | o::_,0=>some o
 | _::l,n+1=>opAt l n
theorem opAt_eq:∀(l:List Oper) (i:Nat),opAt l i=l.toArray[i]?
 | [],i=>by simp [opAt]
 | o::l,0=>by simp [opAt]
 | o::l,n+1=>by simp [opAt,opAt_eq l n]
theorem pre_plain {ol:List Oper} {K:Act→Prop} {i:Nat} {l:List Nat} {a:Act} {o:Oper} (hi:opAt ol i=some o) (hp:plainOp o=true) (hw:Region.wanted o (yielded ol.toArray a.tmps)=true)
  (h:∀K':Act→Prop,(∀a,wpPre P ol.toArray K l a→K' a)→o.quiet P a (fun _=>True) K'):wpPre P ol.toArray K (i::l) a :=
 ⟨o,(opAt_eq ol i).symm.trans hi,hw,hp,h _ fun _ h=>h⟩
theorem kCq {ol:List Oper} {i:Nat} {l:List Nat} {Fs:List Fact} {a:Act} {o:Oper} (hi:opAt ol i=some o) (hA:As.contains i=false) (hC:Cs.contains i=false) (hp:plainOp o=true) (hw:Region.wanted o (yielded ol.toArray a.tmps)=true)
  (h:∀K':Act→Prop,(∀a,Seg P ol.toArray W Cs As K l Fs a→K' a)→o.quiet P a (fun w'=>∃u:Ext W,w'=u.w) K'):Seg P ol.toArray W Cs As K (i::l) Fs a :=
 kSj.2 ⟨o,(opAt_eq ol i).symm.trans hi,by
  unfold Head
  rw [if_pos hw,if_neg (by simpa using hA),if_neg (by simpa using hC)]
  exact⟨hp,_,fun w' hw' _=>⟨Ext.mk hw',rfl⟩,h _ fun _ h=>h⟩⟩
theorem seg_alloc {ol:List Oper} {i:Nat} {l:List Nat} {Fs:List Fact} {a:Act} {o:Oper} (obj:Obj) (hi:opAt ol i=some o) (hA:As.contains i=true) (hw:Region.wanted o (yielded ol.toArray a.tmps)=true)
  (hr:∀w,(execOp a.eval o).run P w=.ok (.value (.pointer (some ⟨w.heap.size,0,none⟩))) (w.alloc obj))
  (h:∀b,Seg P ol.toArray W Cs As K l (⟨i,[b],fun w=>w.heap[b]?=some obj⟩::Fs) (a.put o.dst (.pointer (some ⟨b,0,none⟩)))):Seg P ol.toArray W Cs As K (i::l) Fs a :=
 kSj.2 ⟨o,(opAt_eq ol i).symm.trans hi,by
  unfold Head
  rw [if_pos hw,if_pos (by simpa using hA)]
  exact⟨obj,hr,h⟩⟩
theorem seg_val {ol:List Oper} {i:Nat} {l:List Nat} {Fs:List Fact} {a:Act} {o:Oper} (v:Value) (hi:opAt ol i=some o) (hA:As.contains i=false) (hC:Cs.contains i=true) (hw:Region.wanted o (yielded ol.toArray a.tmps)=true)
  (hr:∀w post,Upto [] W w→DF ol.toArray i Fs w→(∀w',Upto [] w w'→post v w')→kNj P post ((execOp a.eval o).run P w))
  (h:Seg P ol.toArray W Cs As K l Fs (a.put o.dst v)):Seg P ol.toArray W Cs As K (i::l) Fs a :=
 kSj.2 ⟨o,(opAt_eq ol i).symm.trans hi,by
  unfold Head
  rw [if_pos hw,if_neg (by simpa using hA),if_pos (by simpa using hC)]
  exact Or.inl ⟨v,fun w hu hd=>hr w _ hu hd fun w' h'=>⟨h',rfl⟩,h⟩⟩
theorem kYw {ol:List Oper} {i:Nat} {l:List Nat} {Fs:List Fact} {a:Act} {o:Oper} {Y:Type} [hY:Nonempty Y] (mk:Y→Value) (Φ:Y→World→Prop) (own:Y→List Nat) (hi:opAt ol i=some o) (hA:As.contains i=false) (hC:Cs.contains i=true) (hw:Region.wanted o (yielded ol.toArray a.tmps)=true)
  (hs:∀y w w',Φ y w→Upto [] w w'→Φ y w') (hn:∀y,(own y).Nodup)
  (hr:∀w post,Upto [] W w→DF ol.toArray i Fs w→(∀y w',Upto [] w w'→Φ y w'→(∀b∈own y,w.heap.size≤b∧b<w'.heap.size)→post (mk y) w')→kNj P post ((execOp a.eval o).run P w))
  (h:∀y,Seg P ol.toArray W Cs As K l (⟨i,own y,Φ y⟩::Fs) (a.put o.dst (mk y))):Seg P ol.toArray W Cs As K (i::l) Fs a :=
 kSj.2 ⟨o,(opAt_eq ol i).symm.trans hi,by
  unfold Head
  rw [if_pos hw,if_neg (by simpa using hA),if_pos (by simpa using hC)]
  exact Or.inr ⟨Y,mk,Φ,own,hY,hs,hn,fun w hu hd=>hr w _ hu hd fun y w' h1 h2 h3=>⟨h1,y,rfl,h2,h3⟩,h⟩⟩
theorem kMw {ol:List Oper} {i:Nat} {l:List Nat} {Fs:List Fact} {a:Act} {o:Oper} {v:Value} {f:FuncId} {args:Array Value} (hi:opAt ol i=some o) (hA:As.contains i=false) (hC:Cs.contains i=true) (hw:Region.wanted o (yielded ol.toArray a.tmps)=true)
  (hr:∀w,(execOp a.eval o).run P w=.ok (.enter f args) w) (hc:∀w,Upto [] W w→DF ol.toArray i Fs w→Calls P f args w fun e w'=>e=.returned v∧Upto [] w w')
  (h:Seg P ol.toArray W Cs As K l Fs (a.put o.dst v)):Seg P ol.toArray W Cs As K (i::l) Fs a :=
 seg_val v hi hA hC hw (fun w post hu hd hp=>by rw [hr w];exact (hc w hu hd).mono fun e w' ⟨h1,h2⟩=>⟨_,h1,hp _ h2⟩) h
theorem seg_callO {ol:List Oper} {i:Nat} {l:List Nat} {Fs:List Fact} {a:Act} {o:Oper} {f:FuncId} {args:Array Value} {Y:Type} [hY:Nonempty Y] (mk:Y→Value) (Φ:Y→World→Prop) (own:Y→List Nat) (hi:opAt ol i=some o) (hA:As.contains i=false) (hC:Cs.contains i=true) (hw:Region.wanted o (yielded ol.toArray a.tmps)=true)
  (hs:∀y w w',Φ y w→Upto [] w w'→Φ y w') (hn:∀y,(own y).Nodup)
  (hr:∀w,(execOp a.eval o).run P w=.ok (.enter f args) w)
  (hc:∀w,Upto [] W w→DF ol.toArray i Fs w→Calls P f args w fun e w'=>∃y,e=.returned (mk y)∧Upto [] w w'∧Φ y w'∧∀b∈own y,w.heap.size≤b∧b<w'.heap.size)
  (h:∀y,Seg P ol.toArray W Cs As K l (⟨i,own y,Φ y⟩::Fs) (a.put o.dst (mk y))):Seg P ol.toArray W Cs As K (i::l) Fs a :=
 kYw mk Φ own hi hA hC hw hs hn (fun w post hu hd hp=>by rw [hr w];exact (hc w hu hd).mono fun e w' ⟨y,h1,h2,h3,h4⟩=>⟨_,h1,hp _ _ h2 h3 h4⟩) h
end
end Go.PL
namespace Go.Proofs.YtkhbpebpljdifaaGreatDoor
open Go.RowKit Go.PL Go.Maps
theorem Keys.upto {S:List Nat} {w w':World} {v:Value} (h:Keys w v) (hu:Upto S w w') (hS:∀g∈S,∃cs t z,w.heap[g]?=some (.cells cs t z)):Keys w' v:=by
 obtain⟨b,h1,h2⟩:=h
 refine⟨b,h1,h2.upto hu (fun hm=>?_)⟩
 obtain⟨cs,t,z,hc⟩:=hS b hm
 obtain⟨es,c,h3,_⟩:=h2
 rw [hc] at h3
 cases h3
structure TkM (w:World) (B3 B7:Nat) (m:Value) (acc:List Tok) (l:Value) (L c:Nat) (wr:World):Prop where
 row:wr.ownsRow 0 83 5 l acc.length (acc.flatMap tkC)
 own:∀g,l.ownBlock=some g→w.heap.size≤g
 b3:wr.heap[B3]?=some (.cells #[.int .i64 0,.int .i64 0] 36 (0,0))
 b7:wr.heap[B7]?=some (.cells #[.int .i64 L,.int .i64 c] 36 (0,0))
 up:Upto [] w wr
 keys:Keys wr m
 env:Env wr
 n3:w.heap.size≤B3
 n7:w.heap.size≤B7
 ne:B3≠B7
section
variable {w wr wr':World} {B3 B7:Nat} {m:Value} {acc:List Tok} {l:Value} {L c:Nat}
theorem TkM.ext (h:TkM w B3 B7 m acc l L c wr) (hu:Upto [] wr wr'):TkM w B3 B7 m acc l L c wr' :=
 ⟨kIx h.row hu (by simp),h.own,hu.at h.b3 (by simp),hu.at h.b7 (by simp),h.up.trans_ext hu,h.keys.ext hu,h.env.ext hu,h.n3,h.n7,h.ne⟩
theorem TkM.no7 (h:TkM w B3 B7 m acc l L c wr):∀g,l.ownBlock=some g→g≠B7∧g≠B3:=fun g hg =>
 ⟨fun e=>row_ne h.row (g:=g) (Option.mem_toList.2 hg) (cs:=#[.int .i64 L,.int .i64 c]) (t:=36) (fz:=(0,0)) (by rw [e];exact h.b7) (by decide),fun e=>row_ne h.row (g:=g) (Option.mem_toList.2 hg) (cs:=#[.int .i64 0,.int .i64 0]) (t:=36) (fz:=(0,0)) (by rw [e];exact h.b3) (by decide)⟩
theorem Env.upto {S:List Nat} {w0 w1 w2:World} (h:Env w0) (h1:Upto [] w0 w1) (h2:Upto S w1 w2) (hS:∀k∈S,w0.heap.size≤k):Env w2:=h.ext (h1.trans h2 (fun k hk=>Or.inr (hS k hk)))
theorem TkM.set (h:TkM w B3 B7 m acc l L c wr) (h0:Env w) {L' c':Nat} (hu:Upto [B7] wr wr') (hb:wr'.heap[B7]?=some (.cells #[.int .i64 L',.int .i64 c'] 36 (0,0))):TkM w B3 B7 m acc l L' c' wr':=by
 refine⟨kIx h.row hu (fun g hg=>by simpa using (h.no7 g hg).1),h.own,hu.at h.b3 (by simpa using h.ne),hb,h.up.trans hu (fun k hk=>by simp at hk;subst hk;exact Or.inr h.n7),h.keys.upto hu (fun g hg=>by simp at hg;subst hg;exact⟨_,_,_,h.b7⟩),h0.upto h.up hu (fun k hk=>by simp at hk;subst hk;exact h.n7),h.n3,h.n7,h.ne⟩
theorem TkM.at (h:TkM w B3 B7 m acc l L c wr) (h0:Env w) (c':Nat):TkM w B3 B7 m acc l L c' ((wr.setCell ⟨B7,0,none⟩ (.int .i64 L)).setCell ⟨B7,1,none⟩ (.int .i64 c')) :=
 h.set h0 (((Upto.refl _ wr).setCell (Or.inl (by simp)) _).setCell (Or.inl (by simp)) _) (by
  have:=kCw (kCw h.b7 0 (.int .i64 L)) 1 (.int .i64 c')
  simpa using this)
theorem TkM.line (h:TkM w B3 B7 m acc l L c wr) (h0:Env w) (L':Nat):TkM w B3 B7 m acc l L' c (wr.setCell ⟨B7,0,none⟩ (.int .i64 L')) :=
 h.set h0 ((Upto.refl _ wr).setCell (Or.inl (by simp)) _) (by
  have:=kCw h.b7 0 (.int .i64 L')
  simpa using this)
theorem TkM.app {t:Tok} {src:Obj} {n':Nat} {b':Option Addr} {c':Nat} (h:TkM w B3 B7 m acc l L c wr) (h0:Env w) (hn:n'=acc.length+1)
  (ho:wr'.ownsRow 0 83 5 (.slice b' n' c') n' (acc.flatMap tkC++tkC t)) (hu:Upto l.ownBlock.toList (wr.alloc src) wr') (hw:∀g,(Value.slice b' n' c').ownBlock=some g→l.ownBlock=some g∨(wr.alloc src).heap.size≤g) :
  TkM w B3 B7 m (acc++[t]) (.slice b' (acc.length+1) c') L c wr':=by
 subst hn
 have h':=h.ext ((Upto.refl [] wr).alloc src)
 have hs:w.heap.size≤(wr.alloc src).heap.size:=h'.up.size
 have hS:∀k∈l.ownBlock.toList,w.heap.size≤k:=fun k hk=>h.own k (Option.mem_toList.1 hk)
 refine⟨?_,fun g hg=>(hw g hg).elim (h.own g) (fun h=>Nat.le_trans hs h),hu.at h'.b3 (fun hm=>(h'.no7 B3 (Option.mem_toList.1 hm)).2 rfl),hu.at h'.b7 (fun hm=>(h'.no7 B7 (Option.mem_toList.1 hm)).1 rfl),h'.up.trans hu (fun k hk=>Or.inr (hS k hk)),h'.keys.upto hu (fun g hg=>?_),h0.upto h'.up hu hS,h.n3,h.n7,h.ne⟩
 ·rw [toks_snoc]
  simpa using ho
 ·obtain⟨cur,hc⟩:=kOq h'.row (Option.mem_toList.1 hg)
  exact⟨_,_,_,hc⟩
theorem TkM.fin (h:TkM w B3 B7 m acc l L c wr) (x y:Value):Toks ((wr.setCell ⟨B3,0,none⟩ x).setCell ⟨B3,1,none⟩ y) l acc∧Upto [] w ((wr.setCell ⟨B3,0,none⟩ x).setCell ⟨B3,1,none⟩ y):=by
 have hu:Upto [B3] wr ((wr.setCell ⟨B3,0,none⟩ x).setCell ⟨B3,1,none⟩ y):=((Upto.refl _ wr).setCell (Or.inl (by simp)) _).setCell (Or.inl (by simp)) _
 refine⟨(Toks.of_row h.row).upto hu (fun g o n c' e hg=>?_),h.up.trans hu (fun k hk=>by simp at hk;subst hk;exact Or.inr h.n3)⟩
 rcases h.row.2 with⟨rfl,-⟩ | ⟨g',cap,cur,rfl,-⟩
 ·cases e
 ·cases e
  exact (h.no7 g rfl).2 (by simpa using hg)
end
theorem kQk {w:World} {B:Nat} {l:List Value} {t:TypeId} {fr:Nat×Nat} (hb:w.heap[B]?=some (.cells l.toArray t fr)):∀(j:Nat) (u:Value),l[j]?=some u→w.cell? ((⟨B,0,none⟩:Addr).add j)=some u:=by
 intro j u hj
 simp only [Addr.add_lit,Nat.zero_add]
 rw [kAz hb]
 simpa using hj
theorem tkC_one {t:Tok}:∀u∈tkC t,u.oneCell'=true:=by
 intro u h
 simp only [tkC,List.mem_cons,List.not_mem_nil,or_false] at h
 rcases h with rfl | rfl | rfl | rfl | rfl<;>rfl
def TokR (s:List UInt8) (e:Ending) (w':World):Prop :=
 (∃ts v,lexT s=.ok ts∧e=.returned (.tuple #[v,.agg #[.int .i64 0,.int .i64 0],.int .i64 0])∧Toks w' v ts) ∨
 ∃l c n:Nat,lexT s=.error (l,c,n)∧n≠0∧e=.returned (.tuple #[.slice none 0 0,.agg #[.int .i64 l,.int .i64 c],.int .i64 n])
theorem ext_from {s:List UInt8} (k:Nat):(ByteArray.mk s.toArray).extract k s.length=⟨(s.drop k).toArray⟩:=by
 rw [ByteArray.extract_mk,List.take_of_length_le (by simp)]
theorem ext_to {s:List UInt8} (k n:Nat):(ByteArray.mk s.toArray).extract k (k+n)=⟨((s.drop k).take n).toArray⟩:=by
 rw [ByteArray.extract_mk,Nat.add_sub_cancel_left]
theorem drop_at {s:List UInt8} {k:Nat} {b:UInt8} (h:s[k]?=some b):s.drop k=b::s.drop (k+1):=by
 obtain⟨h1,h2⟩:=List.getElem?_eq_some_iff.1 h
 rw [List.drop_eq_getElem_cons h1,h2]
end Go.Proofs.YtkhbpebpljdifaaGreatDoor
namespace Go.Proofs.YtkhbpebpljdifaaGreatDoor
open Go.RowKit Go.PL Go.Maps
theorem info36:(Tryz.prog.info? 83).map (fun i=>(i.zero,i.size,i.bytes))=some (some (.agg #[.int .i64 0,.string ⟨#[]⟩,.int .i64 0,.int .i64 0,.int .i64 0]),5,48):=by kernel_rfl
theorem tokenize_calls (s:List UInt8) (w:World) (he:Env w) (hmax:s.length≤281474976710656) :
  Calls Tryz.prog 48 #[.string ⟨s.toArray⟩] w fun e w'=>TokR s e w'∧Upto [] w w':=by
 have hsz:(ByteArray.mk s.toArray).size=s.length:=rfl
 by_cases hbig:65536<s.length
 ·have hbig':(65536:Int)<s.length:=by omega
  clear he
  have b3:=kAq w (.cells #[.int .i64 0,.int .i64 0] 36)
  obtain⟨q0,q1⟩:=kKx b3
  go_enter Tryz.func48,Tryz.ntmps48
  go_wp2_with fail
  go_step3
  go_wp2_with fail
  rw [Exit.noGoto_ret]
  refine bodyPost_ret (v:=.tuple #[.slice none 0 0,.agg #[.int .i64 0,.int .i64 0],.int .i64 2]) (by simp [results,Tryz.results48,go_sem,q0,q1]) rfl ⟨?_,(Upto.refl _ _).alloc _⟩
  exact Or.inr ⟨0,0,2,by rw [lexT,if_pos hbig],by decide,rfl⟩
 ·have hbig':¬(65536:Int)<s.length:=by omega
  have hlt:lexT s=lexS s 1 1:=by rw [lexT,if_neg hbig]
  have hlen:s.length≤65536:=by omega
  have hu0:Upto [] w (w.alloc (.cells #[.int .i64 0,.int .i64 0] 36)):=(Upto.refl [] w).alloc _
  have b3:=kAq w (.cells #[.int .i64 0,.int .i64 0] 36)
  have HK:=Lib.hid (known_calls _ (he.ext hu0))
  have HLT:=Lib.hid hlt
  clear hlt
  obtain⟨i0,hi0,hz0,hz1,hz2⟩:=info_parts info36
  have HI:=Lib.hid hi0
  have HZ0:=Lib.hid hz0
  have HZ1:=Lib.hid hz1
  have HZ2:=Lib.hid hz2
  clear hi0 hz0 hz1 hz2
  have HB:=Lib.hid blank_calls
  have HX:=Lib.hid Tryz.strings_IndexByte
  have HN:=Lib.hid inner_calls
  have HC:=Lib.hid (fun x h w=>cut_calls 78 kDq (kMq Tryz.func78 (by kernel_rfl) rfl) inner_calls x h w)
  have HR:=Lib.hid run_calls
  go_enter Tryz.func48,Tryz.ntmps48
  go_wp2_with fail
  go_step3
  go_wp2_with fail
  refine HK.out.mono ?_
  rintro e w1 ⟨m,rfl,hkeys,hu1⟩
  have hb3:=hu1.at b3 (by simp)
  have hs1:=hu1.size
  have hup1:=hu0.trans_ext hu1
  have hM:TkM w w.heap.size w1.heap.size m [] (.slice none 0 0) 1 1 (w1.alloc (.cells #[.int .i64 1,.int .i64 1] 36)):=by
   have hul:Upto [] w1 (w1.alloc (.cells #[.int .i64 1,.int .i64 1] 36)):=(Upto.refl [] w1).alloc _
   refine⟨⟨rfl,Or.inl ⟨rfl,rfl⟩⟩,fun g hg=>(by cases hg),hul.at hb3 (by simp),kAq _ _,hup1.trans_ext hul,hkeys.ext hul,(he.ext hup1).ext hul,Nat.le_refl _,hup1.size,?_⟩
   simp only [World.size_alloc] at hs1
   omega
  have h0:=Lib.hid he
  clear HK b3 hb3 hkeys hu0 hu1 hup1 hs1 he hbig hbig'
  go_wp2_with fail
  go_step3
  go_wp2_with fail
  generalize w1.alloc (.cells #[.int .i64 1,.int .i64 1] 36)=W0 at *
  generalize w1.heap.size=B7 at *
  generalize hB3:w.heap.size=B3 at *
  go_loopw [5,8,9] (fun l p i wr=>∃(k ls L c:Nat) (acc:List Tok),k≤s.length∧ls≤k∧i=.int .i64 k∧p=.int .i64 ls∧TkM w B3 B7 m acc l L c wr∧Hid (acc.length≤k∧L≤k+1)∧Hid (lexS s 1 1=Go.PL.ahead acc (lexS (s.drop k) L (k-ls+1)))) (fun _ _ i _=>s.length+1-(intOf i).toNat)
  case atStart=>exact⟨0,0,1,1,[],by omega,by omega,rfl,rfl,hM,Lib.hid ⟨by simp,by omega⟩,Lib.hid (by rw [ahead_nil];rfl)⟩
  case round =>
   obtain⟨k,ls,L,c,acc,hk,hls,rfl,rfl,hM',HL,HE⟩:=hrel
   clear hM
   obtain⟨va,vc,rfl,-⟩:=kJj hM'.row
   have hcol:(k:Int)-ls+1=((k-ls+1:Nat):Int):=by omega
   have hcs:Hid (∀j,k+j-ls+1=(k-ls+1)+j):=Lib.hid (by intro j;omega)
   have hccb:k-ls+1≤k+1:=by omega
   generalize k-ls+1=cc at *
   have hMa:=hM'.at h0.out cc
   have hb7:=hM'.b7
   obtain⟨q0,q1⟩:=kKx hb7
   obtain⟨f0,f1⟩:=kRz hb7
   obtain⟨hacc,hLk⟩:=HL.out
   have hkb:(k:Int)≤65536:=by omega
   have hk0:(0:Int)≤k:=by omega
   have hls0:(0:Int)≤ls:=by omega
   have hlsk:(ls:Int)≤k:=by omega
   have hL0:(0:Int)≤L:=by omega
   have hLb:(L:Int)≤65537:=by omega
   have HA:=Lib.hid hMa
   clear hM' hMa hb7 HL
   rcases Nat.lt_or_ge k s.length with hlt | hge
   ·obtain⟨b,hb⟩:∃b,s[k]?=some b:=⟨s[k],List.getElem?_eq_getElem hlt⟩
    have hat:=str_at hb
    have hd:=Lib.hid (drop_at hb)
    clear hb
    have hlt':((k:Int)==s.length)=false:=by rw [beq_eq_false_iff_ne];omega
    have hlt2:(k:Int)<s.length:=by omega
    go_wp2_with fail
    generalize (wr.setCell ⟨B7,0,none⟩ (.int .i64 L)).setCell ⟨B7,1,none⟩ (.int .i64 cc)=wa at *
    clear q0 q1 f0 f1
    have hA:=HA.out
    obtain⟨a0,a1⟩:=kKx hA.b7
    obtain⟨fa0,fa1⟩:=kRz hA.b7
    clear hA
    refine (HB.out _ _).mono ?_
    rintro e wb ⟨rfl,hwb⟩
    have hwb':=hwb.symm
    subst hwb'
    cases hbl:kOx b with
    | true =>
     have HBL:=Lib.hid hbl
     by_cases h10:b.toNat=10
     ·have t10:((b.toNat:Int)==10)=true:=by simp [h10]
      have HM2:Hid (TkM w B3 B7 m acc (.slice va acc.length vc) (L+1) cc (wa.setCell ⟨B7,0,none⟩ (.int .i64 ((L:Int)+1)))):=Lib.hid (HA.out.line h0.out (L+1))
      have H10:=Lib.hid h10
      clear HA h10
      go_wp2_with fail
      go_roundw
      case rel=>exact⟨k+1,k+1,L+1,cc,acc,by omega,by omega,by go_num,by go_num,HM2.out,Lib.hid ⟨by omega,by omega⟩,Lib.hid (by rw [HE.out,hd.out,lexS_line H10.out,Nat.sub_self])⟩
      case measure=>simp [intOf];omega
     ·have t10:((b.toNat:Int)==10)=false:=by rw [beq_eq_false_iff_ne];omega
      have H10:=Lib.hid h10
      clear h10
      go_wp2_with fail
      go_roundw
      case rel=>exact⟨k+1,ls,L,cc,acc,by omega,by omega,by go_num,rfl,HA.out,Lib.hid ⟨by omega,by omega⟩,Lib.hid (by rw [HE.out,hd.out,lexS_blank HBL.out H10.out,hcs.out 1])⟩
      case measure=>simp [intOf];omega
    | false =>
     have HBL:=Lib.hid hbl
     go_wp2_with fail
     refine (HX.out ⟨#[61,40,41,44,58,59]⟩ b.toNat _).mono ?_
     rintro e wb ⟨rfl,hwb⟩
     have hwb':=hwb.symm
     subst hwb'
     rw [byte_back]
     have him:=idx_mark b
     generalize Go.Lib.indexByte [61,40,41,44,58,59] b=kk at *
     cases hmk:kXx b with
     | true =>
      have HMK:=Lib.hid hmk
      rw [hmk] at him
      have hkk:(0:Int)≤kk:=of_decide_eq_true him
      clear him
      go_wp2_with fail
      have hx3:(ByteArray.mk s.toArray).extract k (k+1)=⟨[b].toArray⟩:=by rw [ext_to,hd.out];rfl
      have e0:∀u:Ext wa,u.w.cell? ⟨B7,0,none⟩=some (.int .i64 L):=fun u=>u.cell a0
      have e1:∀u:Ext wa,u.w.cell? ⟨B7,1,none⟩=some (.int .i64 cc):=fun u=>u.cell a1
      refine wp_region_noPanic ?_
      refine wp_region_segP_at [] [] [0] [1,2,3,4,5,6,7] [8,9,10] 8 (fun _ _ _ _ _ h=>h) (by kernel_rfl) (by kernel_rfl) (by kernel_rfl) ?_
      refine pre_plain rfl rfl rfl ?_
      intro K' hK'
      go_big_quiet_op
      go_big_quiet_on
      iterate 7 (refine kCq rfl rfl rfl rfl rfl ?_;intro K' hK';go_big_quiet_op;go_big_quiet_on)
      intro w9 hg
      have hv:=hg.up
      clear hg e0 e1
      simp only [List.drop_succ_cons,List.drop_zero]
      have hM9:=HA.out.ext hv
      have H9:=Lib.hid hM9
      have hrow:=(hM9.ext ((Upto.refl [] w9).alloc (.cells #[.int .i64 4,.string ⟨[b].toArray⟩,.int .i64 0,.int .i64 L,.int .i64 cc] 83))).row
      have hsrc:=kQk (l:=tkC ⟨4,[b],0,L,cc⟩) (kAq w9 (.cells #[.int .i64 4,.string ⟨[b].toArray⟩,.int .i64 0,.int .i64 L,.int .i64 cc] 83))
      clear hM9 hv a0 a1
      go_wp2_with (at_builtin;refine kHk _ rfl (.tmp 60) (.tmp 68) 74 rfl 83 i0 (.agg #[.int .i64 0,.string ⟨#[]⟩,.int .i64 0,.int .i64 0,.int .i64 0]) 5 48 Tryz.underlying74 HI.out HZ0.out HZ1.out HZ2.out rfl (by decide) (.slice va acc.length vc) acc.length _ rfl hrow ⟨w9.heap.size,0,none⟩ 1 1 (tkC ⟨4,[b],0,L,cc⟩) rfl rfl hsrc tkC_one (by unfold maxLen;omega) (by omega) ?_;intro vb vd w4 ho4 hu4 hw4;have hM4:=H9.out.app (t:=⟨4,[b],0,L,cc⟩) h0.out rfl ho4 hu4 hw4;clear hrow hsrc ho4 hu4 hw4)
      refine NoPanic.normal ?_
      have HM4:=Lib.hid hM4
      clear hM4
      go_wp2_with fail
      go_roundw
      case rel=>exact⟨k+1,ls,L,cc,acc++[⟨4,[b],0,L,cc⟩],by omega,by omega,by go_num,rfl,HM4.out,Lib.hid ⟨by simp;omega,by omega⟩,Lib.hid (by rw [HE.out,hd.out,lexS_mark HBL.out HMK.out,hcs.out 1,ahead_snoc])⟩
      case measure=>simp [intOf];omega
     | false =>
      have HMK:=Lib.hid hmk
      rw [hmk] at him
      have hkk:kk<0:=by have:=of_decide_eq_false him;omega
      clear him
      go_wp2_with fail
      refine (HN.out _ _).mono ?_
      rintro e wb ⟨rfl,hwb⟩
      have hwb':=hwb.symm
      subst hwb'
      cases hin:kDq b with
      | false =>
       have HIN:=Lib.hid hin
       go_wp2_with fail
       have e0:∀u:Ext wa,u.w.cell? ⟨B7,0,none⟩=some (.int .i64 L):=fun u=>u.cell a0
       have e1:∀u:Ext wa,u.w.cell? ⟨B7,1,none⟩=some (.int .i64 cc):=fun u=>u.cell a1
       refine kFk [] [] [0,1] [2,3] 2 (by kernel_rfl) (by kernel_rfl) (by kernel_rfl) ?_
       iterate 2 (refine kCq rfl rfl rfl rfl rfl ?_;intro K' hK';go_big_quiet_op;go_big_quiet_on)
       intro w9 hg
       have hv:=hg.up
       clear hg e0 e1
       simp only [List.drop_succ_cons,List.drop_zero]
       have hM9:=HA.out.ext hv
       obtain⟨d0,d1⟩:=kKx hM9.b3
       obtain⟨g0,g1⟩:=kRz hM9.b3
       obtain⟨-,z2⟩:=hM9.fin (.int .i64 L) (.int .i64 cc)
       clear hv hM9 a0 a1
       go_wp2_with fail
       rw [Exit.noGoto_ret]
       refine bodyPost_ret (v:=.tuple #[.slice none 0 0,.agg #[.int .i64 L,.int .i64 cc],.int .i64 3]) (by simp [results,Tryz.results48,go_sem,d0,d1]) rfl ⟨Or.inr ⟨L,cc,3,?_,by decide,rfl⟩,z2⟩
       rw [HLT.out,HE.out,hd.out,lexS_bad HBL.out HMK.out HIN.out,ahead_error]
      | true =>
       have HIN:=Lib.hid hin
       have hx1:=ext_from (s:=s) k
       go_wp2_with fail
       have hdl:(s.drop k).length≤4611686018427387904:=by rw [List.length_drop];omega
       with_reducible refine (HC.out (s.drop k) hdl _).mono ?_
       rintro e wb ⟨rfl,hwb⟩
       have hwb':=hwb.symm
       subst hwb'
       obtain⟨r,q,hrq,hrn,hri,hq,-⟩:=lex_split (s.drop k) ⟨b,s.drop (k+1),hd.out,hin⟩
       obtain⟨hr1,hr2⟩:=run_split hri hq
       rw [←hrq] at hr1 hr2
       obtain⟨r',hr'⟩:∃r',r=b::r':=by
        cases r with
        | nil=>exact absurd rfl hrn
        | cons y r' =>
         have:=hrq.symm.trans hd.out
         rw [List.cons_append] at this
         injection this with h1 h2
         rw [h1]
         exact⟨r',rfl⟩
       have hlr:k+r.length+q.length=s.length:=by
        have:=congrArg List.length hrq
        simp only [List.length_drop,List.length_append] at this
        omega
       have hqd:s.drop (k+r.length)=q:=by
        rw [←List.drop_drop,hrq,List.drop_left]
       clear hx1
       have hx2:(ByteArray.mk s.toArray).extract k (k+r.length)=⟨r.toArray⟩:=by
        rw [ext_to,hrq,List.take_left]
       have hrl:r.length≠0:=by rw [hr'];simp
       have hkr:(k:Int)+r.length≤s.length:=by omega
       have hr0:(0:Int)≤r.length:=by omega
       have hrI:(ByteArray.mk r.toArray).size=r.length:=rfl
       rw [hr1]
       have HS:=Lib.hid (lexS_runs hrn hri hq)
       have HRR:=Lib.hid hr'
       clear hr'
       have HQ:=Lib.hid hqd
       have HRQ:=Lib.hid hrq
       clear hrq hqd hr1 hr2 hri hq hrn hat hdl
       go_wp2_with fail
       have HRC:=HR.out b r' m wa (by rw [←HRR.out];omega) HA.out.env HA.out.keys
       rw [←HRR.out] at HRC
       refine HRC.mono ?_
       rintro e w2 ⟨⟨kk,v,n,x,rfl,hcase⟩,hu2⟩
       clear HRC
       unfold tkV
       have hM2:=HA.out.ext hu2
       have hM3:=hM2.ext ((Upto.refl [] w2).alloc (.cells #[.int .i64 kk,.string ⟨x.toArray⟩,.int .i64 v,.int .i64 0,.int .i64 0] 83))
       rcases hcase with⟨rfl,rfl,hc⟩ | ⟨hn,hc⟩
       ·simp only [show ((0:Nat):Int)=0 from rfl]
        have a0:=kAz hM3.b7 0
        have a1:=kAz hM3.b7 1
        have hn5:=kAq w2 (.cells #[.int .i64 kk,.string ⟨x.toArray⟩,.int .i64 v,.int .i64 0,.int .i64 0] 83)
        have g3:=kDx hn5 3
        have g4:=kDx hn5 4
        simp only [List.getElem?_toArray,List.getElem?_cons_zero,List.getElem?_cons_succ] at a0 a1
        have H2:=Lib.hid hM2
        have hMX:=hM2.ext ((Upto.refl [] w2).alloc (.cells #[.int .i64 kk,.string ⟨x.toArray⟩,.int .i64 v,.int .i64 L,.int .i64 cc] 83))
        have HMX:=Lib.hid hMX
        have hrow:=(hMX.ext ((Upto.refl [] _).alloc (.cells #[.int .i64 kk,.string ⟨x.toArray⟩,.int .i64 v,.int .i64 L,.int .i64 cc] 83))).row
        have hsrc:=kQk (l:=tkC ⟨kk,x,v,L,cc⟩) (kFz w2 (.cells #[.int .i64 kk,.string ⟨x.toArray⟩,.int .i64 v,.int .i64 L,.int .i64 cc] 83) (.cells #[.int .i64 kk,.string ⟨x.toArray⟩,.int .i64 v,.int .i64 L,.int .i64 cc] 83))
        clear hM3 hn5 hu2 HA fa0 fa1 hM2 hMX
        go_wp2_with (at_builtin;refine kHk _ rfl (.tmp 98) (.tmp 100) 74 rfl 83 i0 (.agg #[.int .i64 0,.string ⟨#[]⟩,.int .i64 0,.int .i64 0,.int .i64 0]) 5 48 Tryz.underlying74 HI.out HZ0.out HZ1.out HZ2.out rfl (by decide) (.slice va acc.length vc) acc.length _ rfl hrow ⟨w2.heap.size+1,0,none⟩ 1 1 (tkC ⟨kk,x,v,L,cc⟩) rfl rfl hsrc tkC_one (by unfold maxLen;omega) (by omega) ?_;intro vb vd w4 ho4 hu4 hw4;have HM4:=Lib.hid (HMX.out.app (t:=⟨kk,x,v,L,cc⟩) h0.out rfl ho4 hu4 hw4);clear hrow hsrc ho4 hu4 hw4)
        go_roundw
        case rel =>
         refine⟨k+x.length,ls,L,cc,acc++[⟨kk,x,v,L,cc⟩],by omega,by omega,by go_num,rfl,HM4.out,Lib.hid ⟨by simp;omega,by omega⟩,Lib.hid ?_⟩
         rw [HE.out,HRQ.out,HS.out,hc,hcs.out x.length,HQ.out]
         exact ahead_snoc _ _ _
        case measure=>simp [intOf];omega
       ·have hn':((n:Int)==0)=false:=by rw [beq_eq_false_iff_ne];omega
        have H3:=Lib.hid hM3
        have hb7:=hM3.b7
        clear hM2 hM3 hu2 a0 a1 fa0 fa1 HA
        go_wp2_with fail
        generalize w2.alloc (.cells #[.int .i64 kk,.string ⟨x.toArray⟩,.int .i64 v,.int .i64 0,.int .i64 0] 83)=wc at *
        obtain⟨a0,a1⟩:=kKx hb7
        clear hb7
        have e0:∀u:Ext wc,u.w.cell? ⟨B7,0,none⟩=some (.int .i64 L):=fun u=>u.cell a0
        have e1:∀u:Ext wc,u.w.cell? ⟨B7,1,none⟩=some (.int .i64 cc):=fun u=>u.cell a1
        refine wp_region_noPanic ?_
        refine wp_region_segP_at [] [] [1] [0,2] [3,4] 3 (fun _ _ _ _ _ h=>h) (by kernel_rfl) (by kernel_rfl) (by kernel_rfl) ?_
        refine pre_plain rfl rfl rfl ?_
        intro K' hK'
        go_big_quiet_op
        go_big_quiet_on
        iterate 2 (refine kCq rfl rfl rfl rfl rfl ?_;intro K' hK';go_big_quiet_op;go_big_quiet_on)
        intro w9 hg
        have hv:=hg.up
        clear hg e0 e1
        simp only [List.drop_succ_cons,List.drop_zero]
        have hM9:=H3.out.ext hv
        obtain⟨d0,d1⟩:=kKx hM9.b3
        obtain⟨g0,g1⟩:=kRz hM9.b3
        obtain⟨-,z2⟩:=hM9.fin (.int .i64 L) (.int .i64 cc)
        clear hv hM9 a0 a1
        go_wp2_with fail
        refine NoPanic.normal ?_
        go_wp2_with fail
        rw [Exit.noGoto_ret]
        refine bodyPost_ret (v:=.tuple #[.slice none 0 0,.agg #[.int .i64 L,.int .i64 cc],.int .i64 n]) (by simp [results,Tryz.results48,go_sem,d0,d1]) rfl ⟨Or.inr ⟨L,cc,n,?_,hn,rfl⟩,z2⟩
        rw [HLT.out,HE.out,HRQ.out,HS.out,hc,ahead_error]
   ·have hge':((k:Int)==s.length)=true:=by rw [beq_iff_eq];omega
    go_upto_region 9 with fail
    generalize (wr.setCell ⟨B7,0,none⟩ (.int .i64 L)).setCell ⟨B7,1,none⟩ (.int .i64 cc)=wa at *
    clear q0 q1 f0 f1
    have hA:=HA.out
    obtain⟨a0,a1⟩:=kKx hA.b7
    have hrow:=(hA.ext ((Upto.refl [] wa).alloc (.cells #[.int .i64 0,.string ⟨#[]⟩,.int .i64 0,.int .i64 L,.int .i64 cc] 83))).row
    have hsrc:=kQk (l:=tkC ⟨0,[],0,L,cc⟩) (kAq wa (.cells #[.int .i64 0,.string ⟨#[]⟩,.int .i64 0,.int .i64 L,.int .i64 cc] 83))
    clear hA
    go_wp2_with (at_builtin;refine kHk _ rfl (.tmp 32) (.tmp 35) 74 rfl 83 i0 (.agg #[.int .i64 0,.string ⟨#[]⟩,.int .i64 0,.int .i64 0,.int .i64 0]) 5 48 Tryz.underlying74 HI.out HZ0.out HZ1.out HZ2.out rfl (by decide) (.slice va acc.length vc) acc.length _ rfl hrow ⟨wa.heap.size,0,none⟩ 1 1 (tkC ⟨0,[],0,L,cc⟩) rfl rfl hsrc tkC_one (by unfold maxLen;omega) (by omega) ?_;intro vb vd w4 ho4 hu4 hw4;have hM4:=HA.out.app (t:=⟨0,[],0,L,cc⟩) h0.out rfl ho4 hu4 hw4;have d0:=kAz hM4.b3 0;have d1:=kAz hM4.b3 1;have g0:=kDx hM4.b3 0;have g1:=kDx hM4.b3 1;simp only [List.getElem?_toArray,List.getElem?_cons_zero,List.getElem?_cons_succ] at d0 d1;clear hrow hsrc ho4 hu4 hw4)
    rw [Exit.noGoto_ret]
    obtain⟨z1,z2⟩:=hM4.fin (.int .i64 0) (.int .i64 0)
    have hks:k=s.length:=by omega
    refine bodyPost_ret (v:=.tuple #[.slice vb (acc.length+1) vd,.agg #[.int .i64 0,.int .i64 0],.int .i64 0]) (by simp [results,Tryz.results48,go_sem,d0,d1]) rfl ⟨Or.inl ⟨acc++[⟨0,[],0,L,cc⟩],_,?_,rfl,z1⟩,z2⟩
    rw [HLT.out,HE.out,hks,List.drop_length,lexS_nil,ahead_ok]
theorem tok_store {w:World} {B:Nat} {a b c d e:Value} {T:TypeId} (h:w.heap[B]?=some (.cells #[a,b,c,d,e] T (0,0))) (a' b' c' d' e':Value) :
  (((((w.setCell ⟨B,0,none⟩ a').setCell ⟨B,1,none⟩ b').setCell ⟨B,2,none⟩ c').setCell ⟨B,3,none⟩ d').setCell ⟨B,4,none⟩ e').heap[B]?=some (.cells #[a',b',c',d',e'] T (0,0)):=by
 have:=kCw (kCw (kCw (kCw (kCw h 0 a') 1 b') 2 c') 3 d') 4 e'
 simpa using this
theorem tok_up {v w:World} {B:Nat} (h:Upto [] v w) (hB:v.heap.size≤B) (a' b' c' d' e':Value) :
  Upto [] v (((((w.setCell ⟨B,0,none⟩ a').setCell ⟨B,1,none⟩ b').setCell ⟨B,2,none⟩ c').setCell ⟨B,3,none⟩ d').setCell ⟨B,4,none⟩ e') :=
 ((((h.setCell (Or.inr hB) _).setCell (Or.inr hB) _).setCell (Or.inr hB) _).setCell (Or.inr hB) _).setCell (Or.inr hB) _
def outT:Except (Nat×Nat×Nat) (List Tok)→List Tok×Nat×Nat×Nat
 | .ok ts=>(ts,0,0,0)
 | .error (l,c,n)=>([],l,c,n)
theorem toks_nil (w:World):Toks w (.slice none 0 0) []:=⟨rfl,Or.inl ⟨rfl,none,0,rfl⟩⟩
theorem TokR.out {s:List UInt8} {e:Ending} {w:World} (h:TokR s e w):∃v,e=.returned (.tuple #[v,.agg #[.int .i64 (outT (lexT s)).2.1,.int .i64 (outT (lexT s)).2.2.1],.int .i64 (outT (lexT s)).2.2.2])∧Toks w v (outT (lexT s)).1:=by
 rcases h with⟨ts,v,hl,rfl,hT⟩ | ⟨l,c,n,hl,_,rfl⟩
 ·rw [hl];exact⟨v,rfl,hT⟩
 ·rw [hl];exact⟨_,rfl,toks_nil w⟩
def tkA (t:Tok):Value:=.agg #[.int .i64 t.kind,.string ⟨t.text.toArray⟩,.int .i64 t.val,.int .i64 t.line,.int .i64 t.col]
def rdC (v:Value) (s:PS):Array Value:=#[v,.int .i64 s.nx,.int .i64 s.er,.int .i64 s.dp]
structure RdAt (w:World) (p:Nat) (l:List Tok) (s:PS):Prop where
 cells:∃v,w.heap[p]?=some (.cells (rdC v s) 129 (0,0))∧Toks w v l∧∀g o n c,v=.slice (some ⟨g,o,none⟩) n c→g<p
 inb:s.nx<l.length
 fin:∀i t,l[i]?=some t→t.kind≠0→i+1<l.length
theorem tkAt_some {l:List Tok} {s:PS} (h:s.nx<l.length):l[s.nx]?=some (tkAt l s):=by
 unfold tkAt
 rw [List.getD_eq_getElem?_getD,List.getElem?_eq_getElem h]
 rfl
theorem kHw (w:World) (p:Nat) (l:List Tok) (s:PS) (h:RdAt w p l s):Calls Tryz.prog 89 #[.pointer (some ⟨p,0,none⟩)] w fun e w'=>e=.returned (tkA (tkAt l s))∧Upto [] w w':=by
 obtain⟨⟨v,hb,hT,-⟩,hin,-⟩:=h
 have ht:=tkAt_some hin
 have b0:=kAz hb 0
 have b1:=kAz hb 1
 unfold rdC at b0 b1
 simp only [List.getElem?_toArray,List.getElem?_cons_zero,List.getElem?_cons_succ] at b0 b1
 rcases hT.at with⟨h0,_⟩ | ⟨g,o,c,rfl,hat⟩
 ·rw [h0] at hin;simp at hin
 obtain⟨c0,c1,c2,c3,c4⟩:=hat _ _ ht
 simp only [bs] at c1
 have hi1:(s.nx:Int)<l.length:=by omega
 have hi0:(0:Int)≤s.nx:=by omega
 generalize tkAt l s=t at *
 unfold tkA
 clear hat ht hT hb
 go_enter Tryz.func89,Tryz.ntmps89
 go_wp2_with fail
 have hua:=(Upto.refl [] w).alloc (.cells #[.int .i64 0,.string ⟨#[]⟩,.int .i64 0,.int .i64 0,.int .i64 0] 83)
 have hnew:=kAq w (.cells #[.int .i64 0,.string ⟨#[]⟩,.int .i64 0,.int .i64 0,.int .i64 0] 83)
 have up:∀{a:Addr} {u:Value},w.cell? a=some u→(w.alloc (.cells #[.int .i64 0,.string ⟨#[]⟩,.int .i64 0,.int .i64 0,.int .i64 0] 83)).cell? a=some u:=fun h=>(hua.cell (World.block_lt_of_cell? w _ h) (by simp)).trans h
 replace b0:=up b0
 replace b1:=up b1
 replace c0:=up c0
 replace c1:=up c1
 replace c2:=up c2
 replace c3:=up c3
 replace c4:=up c4
 clear up
 generalize w.alloc (.cells #[.int .i64 0,.string ⟨#[]⟩,.int .i64 0,.int .i64 0,.int .i64 0] 83)=W1 at *
 obtain⟨B,hB,hBB⟩:∃B,w.heap.size≤B∧B=w.heap.size:=⟨_,Nat.le_refl _,rfl⟩
 rw [←hBB] at hnew ⊢
 clear hBB
 have e0:∀u:Ext W1,u.w.cell? ⟨p,0,none⟩=some (.slice (some ⟨g,o,none⟩) l.length c):=fun u=>u.cell b0
 have e1:∀u:Ext W1,u.w.cell? ⟨p,1,none⟩=some (.int .i64 s.nx):=fun u=>u.cell b1
 have f0:∀u:Ext W1,u.w.cell? ⟨g,o+s.nx*5,none⟩=some (.int .i64 t.kind):=fun u=>u.cell c0
 have f1:∀u:Ext W1,u.w.cell? ⟨g,o+s.nx*5+1,none⟩=some (.string ⟨t.text.toArray⟩):=fun u=>u.cell c1
 have f2:∀u:Ext W1,u.w.cell? ⟨g,o+s.nx*5+2,none⟩=some (.int .i64 t.val):=fun u=>u.cell c2
 have f3:∀u:Ext W1,u.w.cell? ⟨g,o+s.nx*5+3,none⟩=some (.int .i64 t.line):=fun u=>u.cell c3
 have f4:∀u:Ext W1,u.w.cell? ⟨g,o+s.nx*5+4,none⟩=some (.int .i64 t.col):=fun u=>u.cell c4
 clear b0 b1 c0 c1 c2 c3 c4
 refine kFk [] [] (List.range 10) [10] 10 (by kernel_rfl) (by kernel_rfl) (by kernel_rfl) ?_
 iterate 10 (refine kCq rfl rfl rfl rfl rfl ?_;intro K' hK';go_big_quiet_op;go_big_quiet_on)
 intro w9 hg
 have hv:=hua.trans_ext hg.up
 have hb9:=hg.up.at hnew (by simp)
 clear hg e0 e1 f0 f1 f2 f3 f4 hnew hua
 obtain⟨z0,z1,z2,z3,z4⟩:=cells5 hb9
 obtain⟨y0,y1,y2,y3,y4⟩:=frees5 hb9
 simp only [List.drop_succ_cons,List.drop_zero]
 have hst:=tok_store hb9 (.int .i64 t.kind) (.string ⟨t.text.toArray⟩) (.int .i64 t.val) (.int .i64 t.line) (.int .i64 t.col)
 have huz:=tok_up hv hB (.int .i64 t.kind) (.string ⟨t.text.toArray⟩) (.int .i64 t.val) (.int .i64 t.line) (.int .i64 t.col)
 clear hb9 hv hB
 go_wp2_with fail
 obtain⟨q0,q1,q2,q3,q4⟩:=cells5 hst
 exact bodyPost_ret (v:=.agg #[.int .i64 t.kind,.string ⟨t.text.toArray⟩,.int .i64 t.val,.int .i64 t.line,.int .i64 t.col]) (by simp [results,Tryz.results89,go_sem,q0,q1,q2,q3,q4]) rfl ⟨rfl,huz⟩
theorem RdAt.ext {w w':World} {p:Nat} {l:List Tok} {s:PS} (h:RdAt w p l s) (hu:Upto [] w w'):RdAt w' p l s:=by
 obtain⟨⟨v,hb,hT,hg⟩,hin,hf⟩:=h
 exact⟨⟨v,hu.at hb (by simp),hT.ext hu,hg⟩,hin,hf⟩
theorem RdAt.step {w:World} {p:Nat} {l:List Tok} {s:PS} (h:RdAt w p l s) (hk:(tkAt l s).kind≠0):RdAt (w.setCell ⟨p,1,none⟩ (.int .i64 ((s.nx:Int)+1))) p l (kBx s)∧Upto [p] w (w.setCell ⟨p,1,none⟩ (.int .i64 ((s.nx:Int)+1))):=by
 obtain⟨⟨v,hb,hT,hg⟩,hin,hf⟩:=h
 have hu:=(Upto.refl [p] w).setCell (p:=⟨p,1,none⟩) (Or.inl (by simp)) (.int .i64 ((s.nx:Int)+1))
 refine⟨⟨⟨v,?_,hT.upto hu (fun g o n c e hm=>by simp at hm;have:=hg g o n c e;omega),hg⟩,hf _ _ (tkAt_some hin) hk,hf⟩,hu⟩
 rw [kCw hb 1]
 rfl
theorem kLj (w:World) (p k:Nat) (l:List Tok) (s:PS) (h:RdAt w p l s):Calls Tryz.prog 90 #[.pointer (some ⟨p,0,none⟩),.int .i64 k] w fun e w'=>e=.returned (.tuple #[])∧RdAt w' p l (kCk k s)∧Upto [p] w w':=by
 have HR:=Lib.hid h
 obtain⟨⟨v,hb,hT,hg⟩,hin,hf⟩:=h
 have b2:=kAz hb 2
 have f2:=kDx hb 2
 unfold rdC at b2
 simp only [List.getElem?_toArray,List.getElem?_cons_zero,List.getElem?_cons_succ] at b2
 by_cases h0:s.er=0
 ·have h1:((s.er:Int)==0)=true:=by simp [h0]
  have hu:=(Upto.refl [p] w).setCell (p:=⟨p,2,none⟩) (Or.inl (by simp)) (.int .i64 k)
  have HN:Hid (RdAt (w.setCell ⟨p,2,none⟩ (.int .i64 k)) p l (kCk k s)):=Lib.hid (by
   refine⟨⟨v,?_,?_,hg⟩,by unfold kCk;rw [if_pos h0];exact hin,hf⟩
   ·have:=kCw hb 2 (.int .i64 k)
    rw [this]
    unfold kCk rdC
    rw [if_pos h0]
    rfl
   ·exact hT.upto hu (fun g o n c e hm=>by simp at hm;have:=hg g o n c e;omega))
  clear hb hT hg h0
  go_enter Tryz.func90,Tryz.ntmps90
  go_wp2_with fail
  exact bodyPost_end (v:=.tuple #[]) (by simp [results,Tryz.results90,go_sem]) rfl ⟨rfl,HN.out,hu⟩
 ·have h1:((s.er:Int)==0)=false:=by rw [beq_eq_false_iff_ne];omega
  have HN:Hid (RdAt w p l (kCk k s)):=Lib.hid (by unfold kCk;rw [if_neg h0];exact HR.out)
  clear hb hT hg h0
  go_enter Tryz.func90,Tryz.ntmps90
  go_wp2_with fail
  exact bodyPost_end (v:=.tuple #[]) (by simp [results,Tryz.results90,go_sem]) rfl ⟨rfl,HN.out,Upto.refl _ _⟩
theorem is_calls (w:World) (p:Nat) (l:List Tok) (s:PS) (x:List UInt8) (h:RdAt w p l s):Calls Tryz.prog 133 #[.pointer (some ⟨p,0,none⟩),.string ⟨x.toArray⟩] w fun e w'=>e=.returned (.bool (isF l x s))∧Upto [] w w':=by
 have HN:=Lib.hid (kHw w p l s h)
 obtain⟨⟨v,hb,-,-⟩,-,-⟩:=h
 generalize ht:tkAt l s=t at HN
 obtain⟨tk,tt,tv,tl,tc⟩:=t
 by_cases g0:s.er=0
 ·have k0:((s.er:Int)==0)=true:=by simp [g0]
  by_cases g3:tk=3
  ·have k3:((tk:Int)==3)=true:=by simp [g3]
   have g4:¬tk=4:=by omega
   by_cases gx:tt=x
   ·have kx:(tt==x)=true:=by simp [gx]
    have HV:Hid (isF l x s=true):=Lib.hid (by unfold isF;rw [ht];simp [*])
    clear ht g0 g3 g4 gx
    go_enter Tryz.func133,Tryz.ntmps133
    go_wp2_with fail
    refine HN.out.mono ?_
    rintro e w1 ⟨rfl,hu1⟩
    unfold tkA
    have d2:=(((hu1.alloc (.cells #[.int .i64 tk,.string ⟨tt.toArray⟩,.int .i64 tv,.int .i64 tl,.int .i64 tc] 83)).at hb (by simp)))
    have b2:=kAz d2 2
    unfold rdC at b2
    simp only [List.getElem?_toArray,List.getElem?_cons_zero,List.getElem?_cons_succ] at b2
    have hu2:=hu1.alloc (.cells #[.int .i64 tk,.string ⟨tt.toArray⟩,.int .i64 tv,.int .i64 tl,.int .i64 tc] 83)
    clear d2 hu1
    go_wp2_with fail
    go_ret
    exact⟨by rw [HV.out];rfl,hu2⟩
   ·have kx:(tt==x)=false:=by simp [gx]
    have HV:Hid (isF l x s=false):=Lib.hid (by unfold isF;rw [ht];simp [*])
    clear ht g0 g3 g4 gx
    go_enter Tryz.func133,Tryz.ntmps133
    go_wp2_with fail
    refine HN.out.mono ?_
    rintro e w1 ⟨rfl,hu1⟩
    unfold tkA
    have d2:=(((hu1.alloc (.cells #[.int .i64 tk,.string ⟨tt.toArray⟩,.int .i64 tv,.int .i64 tl,.int .i64 tc] 83)).at hb (by simp)))
    have b2:=kAz d2 2
    unfold rdC at b2
    simp only [List.getElem?_toArray,List.getElem?_cons_zero,List.getElem?_cons_succ] at b2
    have hu2:=hu1.alloc (.cells #[.int .i64 tk,.string ⟨tt.toArray⟩,.int .i64 tv,.int .i64 tl,.int .i64 tc] 83)
    clear d2 hu1
    go_wp2_with fail
    go_ret
    exact⟨by rw [HV.out];rfl,hu2⟩
  ·have k3:((tk:Int)==3)=false:=by rw [beq_eq_false_iff_ne];omega
   by_cases g4:tk=4
   ·have k4:((tk:Int)==4)=true:=by simp [g4]
    by_cases gx:tt=x
    ·have kx:(tt==x)=true:=by simp [gx]
     have HV:Hid (isF l x s=true):=Lib.hid (by unfold isF;rw [ht];simp [*])
     clear ht g0 g3 g4 gx
     go_enter Tryz.func133,Tryz.ntmps133
     go_wp2_with fail
     refine HN.out.mono ?_
     rintro e w1 ⟨rfl,hu1⟩
     unfold tkA
     have d2:=(((hu1.alloc (.cells #[.int .i64 tk,.string ⟨tt.toArray⟩,.int .i64 tv,.int .i64 tl,.int .i64 tc] 83)).at hb (by simp)))
     have b2:=kAz d2 2
     unfold rdC at b2
     simp only [List.getElem?_toArray,List.getElem?_cons_zero,List.getElem?_cons_succ] at b2
     have hu2:=hu1.alloc (.cells #[.int .i64 tk,.string ⟨tt.toArray⟩,.int .i64 tv,.int .i64 tl,.int .i64 tc] 83)
     clear d2 hu1
     go_wp2_with fail
     go_ret
     exact⟨by rw [HV.out];rfl,hu2⟩
    ·have kx:(tt==x)=false:=by simp [gx]
     have HV:Hid (isF l x s=false):=Lib.hid (by unfold isF;rw [ht];simp [*])
     clear ht g0 g3 g4 gx
     go_enter Tryz.func133,Tryz.ntmps133
     go_wp2_with fail
     refine HN.out.mono ?_
     rintro e w1 ⟨rfl,hu1⟩
     unfold tkA
     have d2:=(((hu1.alloc (.cells #[.int .i64 tk,.string ⟨tt.toArray⟩,.int .i64 tv,.int .i64 tl,.int .i64 tc] 83)).at hb (by simp)))
     have b2:=kAz d2 2
     unfold rdC at b2
     simp only [List.getElem?_toArray,List.getElem?_cons_zero,List.getElem?_cons_succ] at b2
     have hu2:=hu1.alloc (.cells #[.int .i64 tk,.string ⟨tt.toArray⟩,.int .i64 tv,.int .i64 tl,.int .i64 tc] 83)
     clear d2 hu1
     go_wp2_with fail
     go_ret
     exact⟨by rw [HV.out];rfl,hu2⟩
   ·have k4:((tk:Int)==4)=false:=by rw [beq_eq_false_iff_ne];omega
    have gx:True:=trivial
    have HV:Hid (isF l x s=false):=Lib.hid (by unfold isF;rw [ht];simp [*])
    clear ht g0 g3 g4 gx
    go_enter Tryz.func133,Tryz.ntmps133
    go_wp2_with fail
    refine HN.out.mono ?_
    rintro e w1 ⟨rfl,hu1⟩
    unfold tkA
    have d2:=(((hu1.alloc (.cells #[.int .i64 tk,.string ⟨tt.toArray⟩,.int .i64 tv,.int .i64 tl,.int .i64 tc] 83)).at hb (by simp)))
    have b2:=kAz d2 2
    unfold rdC at b2
    simp only [List.getElem?_toArray,List.getElem?_cons_zero,List.getElem?_cons_succ] at b2
    have hu2:=hu1.alloc (.cells #[.int .i64 tk,.string ⟨tt.toArray⟩,.int .i64 tv,.int .i64 tl,.int .i64 tc] 83)
    clear d2 hu1
    go_wp2_with fail
    go_ret
    exact⟨by rw [HV.out];rfl,hu2⟩
 ·have k0:((s.er:Int)==0)=false:=by rw [beq_eq_false_iff_ne];omega
  have g3:True:=trivial
  have g4:True:=trivial
  have gx:True:=trivial
  have HV:Hid (isF l x s=false):=Lib.hid (by unfold isF;rw [ht];simp [*])
  clear ht g0 g3 g4 gx
  go_enter Tryz.func133,Tryz.ntmps133
  go_wp2_with fail
  refine HN.out.mono ?_
  rintro e w1 ⟨rfl,hu1⟩
  unfold tkA
  have d2:=(((hu1.alloc (.cells #[.int .i64 tk,.string ⟨tt.toArray⟩,.int .i64 tv,.int .i64 tl,.int .i64 tc] 83)).at hb (by simp)))
  have b2:=kAz d2 2
  unfold rdC at b2
  simp only [List.getElem?_toArray,List.getElem?_cons_zero,List.getElem?_cons_succ] at b2
  have hu2:=hu1.alloc (.cells #[.int .i64 tk,.string ⟨tt.toArray⟩,.int .i64 tv,.int .i64 tl,.int .i64 tc] 83)
  clear d2 hu1
  go_wp2_with fail
  go_ret
  exact⟨by rw [HV.out];rfl,hu2⟩
theorem isF_kind {l:List Tok} {x:List UInt8} {s:PS} (h:isF l x s=true):(tkAt l s).kind≠0:=by
 unfold isF at h
 simp only [Bool.and_eq_true,Bool.or_eq_true,decide_eq_true_eq] at h
 omega
theorem kEj (w:World) (p:Nat) (l:List Tok) (s:PS) (x:List UInt8) (h:RdAt w p l s) (hl:l.length≤1000000):Calls Tryz.prog 97 #[.pointer (some ⟨p,0,none⟩),.string ⟨x.toArray⟩] w fun e w'=>e=.returned (.bool (isF l x s))∧RdAt w' p l (kDz l x s).2∧Upto [p] w w':=by
 have HC:=Lib.hid (is_calls w p l s x h)
 have hin:=h.inb
 have HR:=Lib.hid h
 cases hv:isF l x s with
 | true =>
  rw [hv] at HC
  have HT:Hid ((kDz l x s).2=kBx s):=Lib.hid (by unfold kDz;rw [if_pos hv])
  have HK:=Lib.hid (isF_kind hv)
  clear h hv
  have hn0:(0:Int)≤s.nx:=by omega
  have hn1:(s.nx:Int)≤1000000:=by omega
  go_enter Tryz.func97,Tryz.ntmps97
  go_wp2_with fail
  refine HC.out.mono ?_
  rintro e w1 ⟨rfl,hu1⟩
  have hR1:=HR.out.ext hu1
  have HS:=Lib.hid (hR1.step HK.out)
  obtain⟨⟨v,hb,-,-⟩,-,-⟩:=hR1
  have b1:=kAz hb 1
  have f1:=kDx hb 1
  unfold rdC at b1
  simp only [List.getElem?_toArray,List.getElem?_cons_zero,List.getElem?_cons_succ] at b1
  have HU:=Lib.hid hu1
  clear hb hu1
  go_wp2_with fail
  go_ret
  exact⟨rfl,by rw [HT.out];exact HS.out.1,(HU.out.mono (by simp)).trans_same HS.out.2⟩
 | false =>
  rw [hv] at HC
  have HT:Hid ((kDz l x s).2=s):=Lib.hid (by unfold kDz;rw [hv];rfl)
  clear h hv
  go_enter Tryz.func97,Tryz.ntmps97
  go_wp2_with fail
  refine HC.out.mono ?_
  rintro e w1 ⟨rfl,hu1⟩
  have HU:=Lib.hid hu1
  clear hu1
  go_wp2_with fail
  go_ret
  exact⟨rfl,by rw [HT.out];exact HR.out.ext HU.out,HU.out.mono (by simp)⟩
theorem kSk (w:World) (p:Nat) (l:List Tok) (s:PS) (x:List UInt8) (h:RdAt w p l s) (hl:l.length≤1000000):Calls Tryz.prog 102 #[.pointer (some ⟨p,0,none⟩),.string ⟨x.toArray⟩] w fun e w'=>e=.returned (.tuple #[])∧RdAt w' p l (kPj l x s)∧Upto [p] w w':=by
 have HC:=Lib.hid (kEj w p l s x h hl)
 cases hv:isF l x s with
 | true =>
  rw [hv] at HC
  have HT:Hid ((kDz l x s).2=kPj l x s):=Lib.hid (by unfold kDz kPj;rw [if_pos hv,if_pos hv])
  clear h hv
  go_enter Tryz.func102,Tryz.ntmps102
  go_wp2_with fail
  refine HC.out.mono ?_
  rintro e w1 ⟨rfl,hR1,hu1⟩
  rw [HT.out] at hR1
  have HU:=Lib.hid hu1
  have HR:=Lib.hid hR1
  clear hu1 hR1
  go_wp2_with fail
  exact bodyPost_end (v:=.tuple #[]) (by simp [results,Tryz.results102,go_sem]) rfl ⟨rfl,HR.out,HU.out⟩
 | false =>
  rw [hv] at HC
  have HT:Hid ((kDz l x s).2=s∧kPj l x s=kCk 3 s):=Lib.hid (by unfold kDz kPj;rw [hv];exact⟨rfl,rfl⟩)
  have HW:=Lib.hid (fun w h=>kLj w p 3 l s h)
  clear h hv
  go_enter Tryz.func102,Tryz.ntmps102
  go_wp2_with fail
  refine HC.out.mono ?_
  rintro e w1 ⟨rfl,hR1,hu1⟩
  rw [HT.out.1] at hR1
  have HU:=Lib.hid hu1
  have HR:=Lib.hid hR1
  clear hu1 hR1
  go_wp2_with fail
  refine (HW.out w1 HR.out).mono ?_
  rintro e w2 ⟨rfl,hR2,hu2⟩
  have HR2:=Lib.hid hR2
  have HU2:=Lib.hid (HU.out.trans_same hu2)
  clear hR2 hu2
  go_wp2_with fail
  exact bodyPost_end (v:=.tuple #[]) (by simp [results,Tryz.results102,go_sem]) rfl ⟨rfl,by rw [HT.out.2];exact HR2.out,HU2.out⟩
theorem wrongF_er (k:Nat) (hk:k≠0) (s:PS):(kCk k s).er≠0:=by
 unfold kCk
 split
 ·exact hk
 ·assumption
theorem kMx (w:World) (p:Nat) (l:List Tok) (s:PS) (h:RdAt w p l s) (hl:l.length≤1000000):Calls Tryz.prog 101 #[.pointer (some ⟨p,0,none⟩)] w fun e w'=>e=.returned (.string ⟨(kAj l s).1.toArray⟩)∧RdAt w' p l (kAj l s).2∧Upto [p] w w':=by
 have HN:=Lib.hid (kHw w p l s h)
 have hin:=h.inb
 have HR:=Lib.hid h
 clear h
 generalize ht:tkAt l s=t at HN
 obtain⟨tk,tt,tv,tl,tc⟩:=t
 have hn0:(0:Int)≤s.nx:=by omega
 have hn1:(s.nx:Int)≤1000000:=by omega
 by_cases g1:tk=1
 ·have k1:((tk:Int)==1)=true:=by simp [g1]
  have k2:((tk:Int) != 1)=false:=by rw [bne,k1];rfl
  by_cases g0:s.er=0
  ·have k0:((s.er:Int)==0)=true:=by simp [g0]
   have k3:((s.er:Int) != 0)=false:=by rw [bne,k0];rfl
   have HV:Hid (kAj l s=(tt,kBx s)):=Lib.hid (by unfold kAj;rw [ht];simp [g1,g0])
   have HK:Hid ((tkAt l s).kind≠0):=Lib.hid (by rw [ht];simp [g1])
   clear ht g1 g0
   go_enter Tryz.func101,Tryz.ntmps101
   go_wp2_with fail
   refine HN.out.mono ?_
   rintro e w1 ⟨rfl,hu1⟩
   unfold tkA
   go_upto_region 2 with fail
   have hR2:=HR.out.ext (hu1.alloc (.cells #[.int .i64 tk,.string ⟨tt.toArray⟩,.int .i64 tv,.int .i64 tl,.int .i64 tc] 83))
   have hu2:=hu1.alloc (.cells #[.int .i64 tk,.string ⟨tt.toArray⟩,.int .i64 tv,.int .i64 tl,.int .i64 tc] 83)
   have hx2:=kAq w1 (.cells #[.int .i64 tk,.string ⟨tt.toArray⟩,.int .i64 tv,.int .i64 tl,.int .i64 tc] 83)
   clear hu1
   generalize w1.alloc (.cells #[.int .i64 tk,.string ⟨tt.toArray⟩,.int .i64 tv,.int .i64 tl,.int .i64 tc] 83)=W2 at *
   generalize w1.heap.size=B at *
   obtain⟨⟨v,hb,-,-⟩,-,-⟩:=id hR2
   have b1:=kAz hb 1
   have b2:=kAz hb 2
   have f1:=kDx hb 1
   have x0:=kAz hx2 0
   have x1:=kAz hx2 1
   unfold rdC at b1 b2
   simp only [List.getElem?_toArray,List.getElem?_cons_zero,List.getElem?_cons_succ] at b1 b2 x0 x1
   have HS:=Lib.hid (hR2.step HK.out)
   have HU:=Lib.hid hu2
   have hBp:B≠p:=fun h=>by subst h;rw [hx2] at hb;simp [rdC] at hb
   have x1':=((hR2.step HK.out).2.cell (p:=⟨B,1,none⟩) (World.block_lt_of_cell? W2 _ x1) (by simpa using hBp)).trans x1
   clear hR2 hu2 hb hx2
   go_wp2_with fail
   go_ret
   exact⟨by rw [HV.out];rfl,by rw [HV.out];exact HS.out.1,(HU.out.mono (by simp)).trans_same HS.out.2⟩
  ·have k0:((s.er:Int)==0)=false:=by rw [beq_eq_false_iff_ne];omega
   have k3:((s.er:Int) != 0)=true:=by rw [bne,k0];rfl
   have HV:Hid (kAj l s=([],s)):=Lib.hid (by unfold kAj;rw [ht];simp [g1,g0])
   clear ht g1 g0
   go_enter Tryz.func101,Tryz.ntmps101
   go_wp2_with fail
   refine HN.out.mono ?_
   rintro e w1 ⟨rfl,hu1⟩
   unfold tkA
   go_upto_region 2 with fail
   have hR2:=HR.out.ext (hu1.alloc (.cells #[.int .i64 tk,.string ⟨tt.toArray⟩,.int .i64 tv,.int .i64 tl,.int .i64 tc] 83))
   have hu2:=hu1.alloc (.cells #[.int .i64 tk,.string ⟨tt.toArray⟩,.int .i64 tv,.int .i64 tl,.int .i64 tc] 83)
   have hx2:=kAq w1 (.cells #[.int .i64 tk,.string ⟨tt.toArray⟩,.int .i64 tv,.int .i64 tl,.int .i64 tc] 83)
   clear hu1
   generalize w1.alloc (.cells #[.int .i64 tk,.string ⟨tt.toArray⟩,.int .i64 tv,.int .i64 tl,.int .i64 tc] 83)=W2 at *
   generalize w1.heap.size=B at *
   obtain⟨⟨v,hb,-,-⟩,-,-⟩:=id hR2
   have b1:=kAz hb 1
   have b2:=kAz hb 2
   have f1:=kDx hb 1
   have x0:=kAz hx2 0
   have x1:=kAz hx2 1
   unfold rdC at b1 b2
   simp only [List.getElem?_toArray,List.getElem?_cons_zero,List.getElem?_cons_succ] at b1 b2 x0 x1
   have HU:=Lib.hid hu2
   have HR2:=Lib.hid hR2
   clear hR2 hu2 hb hx2
   go_wp2_with fail
   go_ret
   exact⟨by rw [HV.out];rfl,by rw [HV.out];exact HR2.out,HU.out.mono (by simp)⟩
 ·have k1:((tk:Int)==1)=false:=by rw [beq_eq_false_iff_ne];omega
  have k2:((tk:Int) != 1)=true:=by rw [bne,k1];rfl
  have hw0:=wrongF_er 3 (by decide) s
  have k0:(((kCk 3 s).er:Int)==0)=false:=by rw [beq_eq_false_iff_ne];omega
  have k3:(((kCk 3 s).er:Int) != 0)=true:=by rw [bne,k0];rfl
  have HV:Hid (kAj l s=([],kCk 3 s)):=Lib.hid (by unfold kAj;rw [ht];simp [g1,hw0])
  clear ht g1 hw0
  go_enter Tryz.func101,Tryz.ntmps101
  go_wp2_with fail
  refine HN.out.mono ?_
  rintro e w1 ⟨rfl,hu1⟩
  unfold tkA
  go_upto_region 2 with fail
  have hR2:=HR.out.ext (hu1.alloc (.cells #[.int .i64 tk,.string ⟨tt.toArray⟩,.int .i64 tv,.int .i64 tl,.int .i64 tc] 83))
  have hu2:=hu1.alloc (.cells #[.int .i64 tk,.string ⟨tt.toArray⟩,.int .i64 tv,.int .i64 tl,.int .i64 tc] 83)
  have hx2:=kAq w1 (.cells #[.int .i64 tk,.string ⟨tt.toArray⟩,.int .i64 tv,.int .i64 tl,.int .i64 tc] 83)
  clear hu1
  generalize w1.alloc (.cells #[.int .i64 tk,.string ⟨tt.toArray⟩,.int .i64 tv,.int .i64 tl,.int .i64 tc] 83)=W2 at *
  generalize w1.heap.size=B at *
  obtain⟨⟨v,hb,-,-⟩,-,-⟩:=id hR2
  have b1:=kAz hb 1
  have b2:=kAz hb 2
  have f1:=kDx hb 1
  have x0:=kAz hx2 0
  have x1:=kAz hx2 1
  unfold rdC at b1 b2
  simp only [List.getElem?_toArray,List.getElem?_cons_zero,List.getElem?_cons_succ] at b1 b2 x0 x1
  have HU:=Lib.hid hu2
  have HR2:=Lib.hid hR2
  clear hR2 hu2 hb hx2 b1 b2 f1
  go_wp2_with fail
  refine (kLj W2 p 3 l s HR2.out).mono ?_
  rintro e w3 ⟨rfl,hR3,hu3⟩
  obtain⟨⟨v3,hb3,-,-⟩,-,-⟩:=id hR3
  have b3:=kAz hb3 2
  unfold rdC at b3
  simp only [List.getElem?_toArray,List.getElem?_cons_zero,List.getElem?_cons_succ] at b3
  have HR3:=Lib.hid hR3
  have HU3:=Lib.hid ((HU.out.mono (by simp)).trans_same hu3)
  clear hR3 hu3 hb3 x0 x1
  go_wp2_with fail
  go_ret
  exact⟨by rw [HV.out];rfl,by rw [HV.out];exact HR3.out,HU3.out⟩
theorem number_callsP (w:World) (p:Nat) (a z:Int) (l:List Tok) (s:PS) (h:RdAt w p l s) (hl:l.length≤1000000):Calls Tryz.prog 173 #[.pointer (some ⟨p,0,none⟩),.int .i64 a,.int .i64 z] w fun e w'=>e=.returned (.int .i64 (kHq l a z s).1)∧RdAt w' p l (kHq l a z s).2∧Upto [p] w w':=by
 have HN:=Lib.hid (kHw w p l s h)
 have hin:=h.inb
 have HR:=Lib.hid h
 clear h
 generalize ht:tkAt l s=t at HN
 obtain⟨tk,tt,tv,tl,tc⟩:=t
 have hn0:(0:Int)≤s.nx:=by omega
 have hn1:(s.nx:Int)≤1000000:=by omega
 by_cases g1:tk=2
 ·have k1:((tk:Int)==2)=true:=by simp [g1]
  have k2:((tk:Int) != 2)=false:=by rw [bne,k1];rfl
  by_cases ga:(tv:Int)<a
  ·have hw0:=wrongF_er 2 (by decide) s
   have k0:(((kCk 2 s).er:Int)==0)=false:=by rw [beq_eq_false_iff_ne];omega
   have k3:(((kCk 2 s).er:Int) != 0)=true:=by rw [bne,k0];rfl
   have HV:Hid (kHq l a z s=(0,kCk 2 s)):=Lib.hid (by unfold kHq;rw [ht];simp [g1,hw0,ga])
   clear ht g1 hw0
   go_enter Tryz.func173,Tryz.ntmps173
   go_wp2_with fail
   refine HN.out.mono ?_
   rintro e w1 ⟨rfl,hu1⟩
   unfold tkA
   go_upto_region 2 with fail
   have hR2:=HR.out.ext (hu1.alloc (.cells #[.int .i64 tk,.string ⟨tt.toArray⟩,.int .i64 tv,.int .i64 tl,.int .i64 tc] 83))
   have hu2:=hu1.alloc (.cells #[.int .i64 tk,.string ⟨tt.toArray⟩,.int .i64 tv,.int .i64 tl,.int .i64 tc] 83)
   have hx2:=kAq w1 (.cells #[.int .i64 tk,.string ⟨tt.toArray⟩,.int .i64 tv,.int .i64 tl,.int .i64 tc] 83)
   clear hu1
   generalize w1.alloc (.cells #[.int .i64 tk,.string ⟨tt.toArray⟩,.int .i64 tv,.int .i64 tl,.int .i64 tc] 83)=W2 at *
   generalize w1.heap.size=B at *
   obtain⟨⟨v,hb,-,-⟩,-,-⟩:=id hR2
   have b1:=kAz hb 1
   have b2:=kAz hb 2
   have f1:=kDx hb 1
   have x0:=kAz hx2 0
   have x1:=kAz hx2 2
   unfold rdC at b1 b2
   simp only [List.getElem?_toArray,List.getElem?_cons_zero,List.getElem?_cons_succ] at b1 b2 x0 x1
   have HU:=Lib.hid hu2
   have HR2:=Lib.hid hR2
   clear hR2 hu2 hb hx2 b1 b2 f1
   go_wp2_with fail
   refine (kLj W2 p 2 l s HR2.out).mono ?_
   rintro e w3 ⟨rfl,hR3,hu3⟩
   obtain⟨⟨v3,hb3,-,-⟩,-,-⟩:=id hR3
   have b3:=kAz hb3 2
   unfold rdC at b3
   simp only [List.getElem?_toArray,List.getElem?_cons_zero,List.getElem?_cons_succ] at b3
   have HR3:=Lib.hid hR3
   have HU3:=Lib.hid ((HU.out.mono (by simp)).trans_same hu3)
   clear hR3 hu3 hb3 x0 x1
   go_wp2_with fail
   go_ret
   exact⟨by rw [HV.out];rfl,by rw [HV.out];exact HR3.out,HU3.out⟩
  ·by_cases gz:z<(tv:Int)
   ·have hw0:=wrongF_er 2 (by decide) s
    have k0:(((kCk 2 s).er:Int)==0)=false:=by rw [beq_eq_false_iff_ne];omega
    have k3:(((kCk 2 s).er:Int) != 0)=true:=by rw [bne,k0];rfl
    have HV:Hid (kHq l a z s=(0,kCk 2 s)):=Lib.hid (by unfold kHq;rw [ht];simp [g1,hw0,gz])
    clear ht g1 hw0
    go_enter Tryz.func173,Tryz.ntmps173
    go_wp2_with fail
    refine HN.out.mono ?_
    rintro e w1 ⟨rfl,hu1⟩
    unfold tkA
    go_upto_region 2 with fail
    have hR2:=HR.out.ext (hu1.alloc (.cells #[.int .i64 tk,.string ⟨tt.toArray⟩,.int .i64 tv,.int .i64 tl,.int .i64 tc] 83))
    have hu2:=hu1.alloc (.cells #[.int .i64 tk,.string ⟨tt.toArray⟩,.int .i64 tv,.int .i64 tl,.int .i64 tc] 83)
    have hx2:=kAq w1 (.cells #[.int .i64 tk,.string ⟨tt.toArray⟩,.int .i64 tv,.int .i64 tl,.int .i64 tc] 83)
    clear hu1
    generalize w1.alloc (.cells #[.int .i64 tk,.string ⟨tt.toArray⟩,.int .i64 tv,.int .i64 tl,.int .i64 tc] 83)=W2 at *
    generalize w1.heap.size=B at *
    obtain⟨⟨v,hb,-,-⟩,-,-⟩:=id hR2
    have b1:=kAz hb 1
    have b2:=kAz hb 2
    have f1:=kDx hb 1
    have x0:=kAz hx2 0
    have x1:=kAz hx2 2
    unfold rdC at b1 b2
    simp only [List.getElem?_toArray,List.getElem?_cons_zero,List.getElem?_cons_succ] at b1 b2 x0 x1
    have HU:=Lib.hid hu2
    have HR2:=Lib.hid hR2
    clear hR2 hu2 hb hx2 b1 b2 f1
    go_wp2_with fail
    refine (kLj W2 p 2 l s HR2.out).mono ?_
    rintro e w3 ⟨rfl,hR3,hu3⟩
    obtain⟨⟨v3,hb3,-,-⟩,-,-⟩:=id hR3
    have b3:=kAz hb3 2
    unfold rdC at b3
    simp only [List.getElem?_toArray,List.getElem?_cons_zero,List.getElem?_cons_succ] at b3
    have HR3:=Lib.hid hR3
    have HU3:=Lib.hid ((HU.out.mono (by simp)).trans_same hu3)
    clear hR3 hu3 hb3 x0 x1
    go_wp2_with fail
    go_ret
    exact⟨by rw [HV.out];rfl,by rw [HV.out];exact HR3.out,HU3.out⟩
   ·by_cases g0:s.er=0
    ·have k0:((s.er:Int)==0)=true:=by simp [g0]
     have k3:((s.er:Int) != 0)=false:=by rw [bne,k0];rfl
     have HV:Hid (kHq l a z s=((tv:Int),kBx s)):=Lib.hid (by unfold kHq;rw [ht];simp [g1,g0,ga,gz])
     have HK:Hid ((tkAt l s).kind≠0):=Lib.hid (by rw [ht];simp [g1])
     clear ht g1 g0
     go_enter Tryz.func173,Tryz.ntmps173
     go_wp2_with fail
     refine HN.out.mono ?_
     rintro e w1 ⟨rfl,hu1⟩
     unfold tkA
     go_upto_region 2 with fail
     have hR2:=HR.out.ext (hu1.alloc (.cells #[.int .i64 tk,.string ⟨tt.toArray⟩,.int .i64 tv,.int .i64 tl,.int .i64 tc] 83))
     have hu2:=hu1.alloc (.cells #[.int .i64 tk,.string ⟨tt.toArray⟩,.int .i64 tv,.int .i64 tl,.int .i64 tc] 83)
     have hx2:=kAq w1 (.cells #[.int .i64 tk,.string ⟨tt.toArray⟩,.int .i64 tv,.int .i64 tl,.int .i64 tc] 83)
     clear hu1
     generalize w1.alloc (.cells #[.int .i64 tk,.string ⟨tt.toArray⟩,.int .i64 tv,.int .i64 tl,.int .i64 tc] 83)=W2 at *
     generalize w1.heap.size=B at *
     obtain⟨⟨v,hb,-,-⟩,-,-⟩:=id hR2
     have b1:=kAz hb 1
     have b2:=kAz hb 2
     have f1:=kDx hb 1
     have x0:=kAz hx2 0
     have x1:=kAz hx2 2
     unfold rdC at b1 b2
     simp only [List.getElem?_toArray,List.getElem?_cons_zero,List.getElem?_cons_succ] at b1 b2 x0 x1
     have HS:=Lib.hid (hR2.step HK.out)
     have HU:=Lib.hid hu2
     have hBp:B≠p:=fun h=>by subst h;rw [hx2] at hb;simp [rdC] at hb
     have x1':=((hR2.step HK.out).2.cell (p:=⟨B,2,none⟩) (World.block_lt_of_cell? W2 _ x1) (by simpa using hBp)).trans x1
     clear hR2 hu2 hb hx2
     go_wp2_with fail
     go_ret
     exact⟨by rw [HV.out];rfl,by rw [HV.out];exact HS.out.1,(HU.out.mono (by simp)).trans_same HS.out.2⟩
    ·have k0:((s.er:Int)==0)=false:=by rw [beq_eq_false_iff_ne];omega
     have k3:((s.er:Int) != 0)=true:=by rw [bne,k0];rfl
     have HV:Hid (kHq l a z s=(0,s)):=Lib.hid (by unfold kHq;rw [ht];simp [g1,g0,ga,gz])
     clear ht g1 g0
     go_enter Tryz.func173,Tryz.ntmps173
     go_wp2_with fail
     refine HN.out.mono ?_
     rintro e w1 ⟨rfl,hu1⟩
     unfold tkA
     go_upto_region 2 with fail
     have hR2:=HR.out.ext (hu1.alloc (.cells #[.int .i64 tk,.string ⟨tt.toArray⟩,.int .i64 tv,.int .i64 tl,.int .i64 tc] 83))
     have hu2:=hu1.alloc (.cells #[.int .i64 tk,.string ⟨tt.toArray⟩,.int .i64 tv,.int .i64 tl,.int .i64 tc] 83)
     have hx2:=kAq w1 (.cells #[.int .i64 tk,.string ⟨tt.toArray⟩,.int .i64 tv,.int .i64 tl,.int .i64 tc] 83)
     clear hu1
     generalize w1.alloc (.cells #[.int .i64 tk,.string ⟨tt.toArray⟩,.int .i64 tv,.int .i64 tl,.int .i64 tc] 83)=W2 at *
     generalize w1.heap.size=B at *
     obtain⟨⟨v,hb,-,-⟩,-,-⟩:=id hR2
     have b1:=kAz hb 1
     have b2:=kAz hb 2
     have f1:=kDx hb 1
     have x0:=kAz hx2 0
     have x1:=kAz hx2 2
     unfold rdC at b1 b2
     simp only [List.getElem?_toArray,List.getElem?_cons_zero,List.getElem?_cons_succ] at b1 b2 x0 x1
     have HU:=Lib.hid hu2
     have HR2:=Lib.hid hR2
     clear hR2 hu2 hb hx2
     go_wp2_with fail
     go_ret
     exact⟨by rw [HV.out];rfl,by rw [HV.out];exact HR2.out,HU.out.mono (by simp)⟩
 ·have k1:((tk:Int)==2)=false:=by rw [beq_eq_false_iff_ne];omega
  have k2:((tk:Int) != 2)=true:=by rw [bne,k1];rfl
  have hw0:=wrongF_er 3 (by decide) s
  have k0:(((kCk 3 s).er:Int)==0)=false:=by rw [beq_eq_false_iff_ne];omega
  have k3:(((kCk 3 s).er:Int) != 0)=true:=by rw [bne,k0];rfl
  have HV:Hid (kHq l a z s=(0,kCk 3 s)):=Lib.hid (by unfold kHq;rw [ht];simp [g1,hw0])
  clear ht g1 hw0
  go_enter Tryz.func173,Tryz.ntmps173
  go_wp2_with fail
  refine HN.out.mono ?_
  rintro e w1 ⟨rfl,hu1⟩
  unfold tkA
  go_upto_region 2 with fail
  have hR2:=HR.out.ext (hu1.alloc (.cells #[.int .i64 tk,.string ⟨tt.toArray⟩,.int .i64 tv,.int .i64 tl,.int .i64 tc] 83))
  have hu2:=hu1.alloc (.cells #[.int .i64 tk,.string ⟨tt.toArray⟩,.int .i64 tv,.int .i64 tl,.int .i64 tc] 83)
  have hx2:=kAq w1 (.cells #[.int .i64 tk,.string ⟨tt.toArray⟩,.int .i64 tv,.int .i64 tl,.int .i64 tc] 83)
  clear hu1
  generalize w1.alloc (.cells #[.int .i64 tk,.string ⟨tt.toArray⟩,.int .i64 tv,.int .i64 tl,.int .i64 tc] 83)=W2 at *
  generalize w1.heap.size=B at *
  obtain⟨⟨v,hb,-,-⟩,-,-⟩:=id hR2
  have b1:=kAz hb 1
  have b2:=kAz hb 2
  have f1:=kDx hb 1
  have x0:=kAz hx2 0
  have x1:=kAz hx2 2
  unfold rdC at b1 b2
  simp only [List.getElem?_toArray,List.getElem?_cons_zero,List.getElem?_cons_succ] at b1 b2 x0 x1
  have HU:=Lib.hid hu2
  have HR2:=Lib.hid hR2
  clear hR2 hu2 hb hx2 b1 b2 f1
  go_wp2_with fail
  refine (kLj W2 p 3 l s HR2.out).mono ?_
  rintro e w3 ⟨rfl,hR3,hu3⟩
  obtain⟨⟨v3,hb3,-,-⟩,-,-⟩:=id hR3
  have b3:=kAz hb3 2
  unfold rdC at b3
  simp only [List.getElem?_toArray,List.getElem?_cons_zero,List.getElem?_cons_succ] at b3
  have HR3:=Lib.hid hR3
  have HU3:=Lib.hid ((HU.out.mono (by simp)).trans_same hu3)
  clear hR3 hu3 hb3 x0 x1
  go_wp2_with fail
  go_ret
  exact⟨by rw [HV.out];rfl,by rw [HV.out];exact HR3.out,HU3.out⟩
end Go.Proofs.YtkhbpebpljdifaaGreatDoor
