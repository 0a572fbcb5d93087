/- What the builders' walks ask, paid. -/
import Derived.Test.YtojncnpmlhhccaaGreatDoorW8
import Derived.Test.YtojncnpmlhhccaaGreatDoorCopy
import Derived.Test.YtojncnpmlhhccaaGreatDoorShelf
set_option linter.all false
namespace Go.Ab
open Go Go.Lib Go.Proofs
theorem copyCheck_ab {G:Nat→Option (List AV)} (H:AHeap) (k:Nat) (b0 b1:AV) (hk:H.get k=some (.cells 69 [b0,b1])) (hb:b0 = .nilp∨b0 = .ptr k 0) :
  ACalls Tryz.prog G 75 [.ptr k 0] H fun r H'=>r = .ret (.tup [])∧H'=H.set k (.cells 69 [.ptr k 0,b1]):=by
 intro C w args R hH hv
 subst hH
 obtain⟨c,cap,hm,rfl⟩:=one_ptr hv hk (by simp)
 obtain⟨c',cap',arr,lo,hi,h1,⟨e',h2,h5⟩,h3,h4⟩:=(R.pres k _ hk).2.2
 rw[hm]at h1;cases h1
 obtain⟨rfl,hsz,_,_⟩:=h5 (by decide)
 have hsz:arr.size=2:=hsz
 obtain⟨y0,hy0,hv0⟩:=h3 0 b0 rfl
 have hc0:w.cell? ⟨c,0,none⟩=some y0:=by simp only[World.cell?,h2];simpa using hy0
 rcases hb with rfl | rfl
 ·cases hv0
  have hsh:w.shape? c=some (69,2):=by simp only[World.shape?,h2,hsz];rfl
  refine(Tryz.copyCheck_fresh c w hc0 hsh (frozen_none h2 h4 (by omega))).mono ?_
  rintro e w' ⟨rfl,rfl⟩
  have hptr:VR C (.ptr k 0) (.pointer (some ⟨c,0,none⟩)) := .ptr k 0 _ ⟨(R.pres k _ hk).1,rfl,by rw[hk];exact⟨c,cap,hm,rfl⟩⟩
  obtain⟨_,R',A'⟩:=store_one (P:=Tryz.prog) R (off:=0) (cs:=[.nilp,b1]) (.cells 69) (.inl ⟨_,rfl⟩) hk rfl hm (by simp) hptr rfl
  exact⟨.ret (.tup []),_,⟨rfl,rfl⟩,.tup [] _ rfl (fun i x y hx=>by simp at hx),R',A'⟩
 ·refine(Tryz.copyCheck_used c w ?_).mono ?_
  ·rw[hc0]
   cases hv0 with
   | ptr _ _ a ha=>
    obtain⟨_,_,ha⟩:=ha
    rw[hk]at ha
    obtain⟨c2,cap2,h1,h2⟩:=ha
    rw[hm]at h1;cases h1
    rw[h2]
  ·rintro e w' ⟨rfl,rfl⟩
   exact⟨.ret (.tup []),C,⟨rfl,(AHeap.set_same hk).symm⟩,.tup [] _ rfl (fun i x y hx=>by simp at hx),R,Adv.refl C _⟩
theorem string_ab {G:Nat→Option (List AV)} (H:AHeap) (k j:Nat) (l:List UInt8) (h:BldAt H k j l):ACalls Tryz.prog G 39 [.ptr k 0] H fun r H'=>r = .ret (.str l)∧H'.next=H.next∧H'.get=(H.del j).get:=by
 obtain⟨b0,_,hk,hj⟩:=h
 exact Bld.string Tryz.lays169 Tryz.Builder_Extra_169 (show(69:Nat)≠0 by decide) hk hj
theorem envB (G:Nat→Option (List AV)):EnvB G:={
 copyCheck:=copyCheck_ab
 copyCheckB:=by kernel_rfl
 string:=string_ab
 stringB:=by kernel_rfl }
end Go.Ab
