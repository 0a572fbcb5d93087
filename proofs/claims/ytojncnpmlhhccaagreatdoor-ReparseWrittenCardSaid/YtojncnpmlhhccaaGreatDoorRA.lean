/- The reference's small functions, walked. The reference's find, blanks, Ends, Place: walked. The reference's Ends and next: walked. The reference's decoder is Go's, on characters of texts. Texts and names of the reference: walked, and that they are the program's. Names of the reference are the program's: the plain law; and what a text is, in parts. -/
import Derived.Test.YtojncnpmlhhccaaGreatDoorWD
import Derived.Test.YtojncnpmlhhccaaGreatDoorCodes5
set_option linter.all false
namespace Go.Ab
open Go Go.Lib Go.Proofs
end Go.Ab
namespace Go.Ab
open Go Go.Lib Go.Proofs
end Go.Ab
namespace Go.Ab
open Go Go.Lib Go.Proofs
def contF:Nat→List UInt8→Nat→Option Nat
 | 0,_,c=>some c
 | _+1,[],_=>none
 | n+1,b::l,c=>if 128≤b.toNat∧b.toNat<192 then contF n l (c*64+(b.toNat-128))else none
def leadR (b:Nat):Option (Nat × Nat × Nat):=
 if 192≤b∧b<224 then some (2,b-192,128)else if 224≤b∧b<240 then some (3,b-224,2048)else if 240≤b∧b<248 then some (4,b-240,65536)else none
def nextR (l:List UInt8):Nat × Nat:=
 match l with
 | []=>(0,0)
 | b::t=>if b.toNat<128 then(b.toNat,1)else match leadR b.toNat with
  | none=>(0,0)
  | some (n,c,least)=>if t.length+1<n then(0,0)else match contF (n-1) t c with
   | none=>(0,0)
   | some c=>if c<least then(0,0)else(c,n)
end Go.Ab
namespace Go.Ab
open Go Go.Lib Go.Proofs
theorem isCharS_iff (c:Nat):isCharS (c:Int)=true↔(c=9∨c=10∨c=13∨(32≤c∧c≤55295)∨(57344≤c∧c≤65533)∨(65536≤c∧c≤1114111)):=by
 simp[isCharS]
 omega
theorem nextR_prefix {l:List UInt8} (h:Lib.hasPrefix l [239,191,189]=true):nextR l=(65533,3):=by
 unfold Lib.hasPrefix at h
 rw[List.isPrefixOf_iff_prefix]at h
 obtain⟨m,rfl⟩:=h
 simp[nextR,leadR,contF]
set_option maxHeartbeats 4000000 in
theorem nextR_high {b:UInt8} (t:List UInt8) (h:128≤b.toNat) :
  ((nextR (b::t)).2=0∨isCharS ((nextR (b::t)).1:Int)=false→dec (b::t)=(65533,1)∨isCharS ((dec (b::t)).1:Int)=false) ∧
  ((nextR (b::t)).2≠0→isCharS ((nextR (b::t)).1:Int)=true→dec (b::t)=nextR (b::t)∧((nextR (b::t)).1=65533→Lib.hasPrefix (b::t) [239,191,189]=true)):=by
 have hN:dec (b::t)=_:=Lib.decodeL_N (b::t)
 simp only[List.getD_cons_zero,List.getD_cons_succ,List.length_cons]at hN
 have hb:=b.toNat_lt
 have hif:∀c:Nat,isCharS (c:Int)=false↔¬(c=9∨c=10∨c=13∨(32≤c∧c≤55295)∨(57344≤c∧c≤65533)∨(65536≤c∧c≤1114111)):=fun c=>by rw[←isCharS_iff];simp
 have hnx:nextR (b::t)=match leadR b.toNat with
  | none=>(0,0)
  | some (n,c,least)=>if t.length+1<n then(0,0)else match contF (n-1) t c with
   | none=>(0,0)
   | some c=>if c<least then(0,0)else(c,n):=by
  simp only[nextR]
  rw[if_neg (by omega)]
  try rfl
 have bad:nextR (b::t)=(0,0)→dec (b::t)=(65533,1)→((nextR (b::t)).2=0∨isCharS ((nextR (b::t)).1:Int)=false→dec (b::t)=(65533,1)∨isCharS ((dec (b::t)).1:Int)=false) ∧
  ((nextR (b::t)).2≠0→isCharS ((nextR (b::t)).1:Int)=true→dec (b::t)=nextR (b::t)∧((nextR (b::t)).1=65533→Lib.hasPrefix (b::t) [239,191,189]=true)):=fun h1 h2=>⟨fun _ => .inl h2,fun h3=>absurd (by rw[h1]) h3⟩
 have hc:(b.toNat<192)∨(192≤b.toNat∧b.toNat<224)∨(224≤b.toNat∧b.toNat<240)∨(240≤b.toNat∧b.toNat<248)∨248≤b.toNat:=by omega
 rcases hc with hc | hc | hc | hc | hc
 ·have hl:leadR b.toNat=none:=by unfold leadR;rw[if_neg (by omega),if_neg (by omega),if_neg (by omega)]
  refine bad (by rw[hnx,hl]) ?_
  rw[hN]
  unfold Lib.decodeN
  rw[if_neg (by omega),if_neg (by omega),if_neg (by omega),if_neg (by omega)]
 ·have hl:leadR b.toNat=some (2,b.toNat-192,128):=by unfold leadR;rw[if_pos hc]
  rw[hl]at hnx
  simp only at hnx
  cases t with
  | nil=>
   refine bad (by rw[hnx];simp) ?_
   rw[hN]
   unfold Lib.decodeN
   rw[if_neg (by omega),if_neg (by simp),if_neg (by simp),if_neg (by simp)]
  | cons x r=>
   simp only[List.length_cons,List.getD_cons_zero,contF,Nat.add_one_sub_one]at hnx hN
   rw[if_neg (by omega)]at hnx
   have hx:=x.toNat_lt
   by_cases h1:128≤x.toNat∧x.toNat<192
   ·rw[if_pos h1]at hnx
    simp only at hnx
    have hd:Lib.decodeN (r.length+1+1) b.toNat x.toNat ((x::r).getD 1 0).toNat ((x::r).getD 2 0).toNat=if(b.toNat-192)*64+(x.toNat-128)<128 then(65533,1)else((b.toNat-192)*64+(x.toNat-128),2):=by
     unfold Lib.decodeN
     rw[if_neg (by omega),if_pos ⟨by omega,by omega,by omega⟩]
     have e:b.toNat % 32*64+x.toNat % 64=(b.toNat-192)*64+(x.toNat-128):=by omega
     rw[e]
     by_cases h2:(b.toNat-192)*64+(x.toNat-128)<128
     ·rw[if_neg (by omega),if_pos h2]
     ·rw[if_pos (by omega),if_neg h2]
    rw[hd]at hN
    by_cases h2:(b.toNat-192)*64+(x.toNat-128)<128
    ·rw[if_pos h2]at hN hnx
     exact bad hnx hN
    ·rw[if_neg h2]at hN hnx
     rw[hN,hnx]
     refine⟨fun h3=>?_,fun _ _=>⟨rfl,fun h4=>?_⟩⟩
     ·rcases h3 with h3 | h3
      ·simp at h3
      ·exact .inr h3
     ·simp only at h4
      omega
   ·rw[if_neg h1]at hnx
    refine bad hnx ?_
    rw[hN]
    unfold Lib.decodeN
    rw[if_neg (by omega),if_neg (by omega),if_neg (by omega),if_neg (by omega)]
 ·have hl:leadR b.toNat=some (3,b.toNat-224,2048):=by unfold leadR;rw[if_neg (by omega),if_pos hc]
  rw[hl]at hnx
  simp only at hnx
  cases t with
  | nil=>
   refine bad (by rw[hnx];simp) ?_
   rw[hN]
   unfold Lib.decodeN
   rw[if_neg (by omega),if_neg (by simp),if_neg (by simp),if_neg (by simp)]
  | cons x t=>
  cases t with
  | nil=>
   refine bad (by rw[hnx];simp) ?_
   rw[hN]
   unfold Lib.decodeN
   rw[if_neg (by omega),if_neg (by omega),if_neg (by simp),if_neg (by simp)]
  | cons y r=>
   simp only[List.length_cons,List.getD_cons_zero,List.getD_cons_succ,contF,Nat.add_one_sub_one]at hnx hN
   rw[if_neg (by omega)]at hnx
   have hx:=x.toNat_lt
   have hy:=y.toNat_lt
   by_cases h1:(128≤x.toNat∧x.toNat<192)∧(128≤y.toNat∧y.toNat<192)
   ·rw[if_pos h1.1,if_pos h1.2]at hnx
    simp only at hnx
    have e:b.toNat % 16*4096+x.toNat % 64*64+y.toNat % 64=((b.toNat-224)*64+(x.toNat-128))*64+(y.toNat-128):=by omega
    have hd:Lib.decodeN (r.length+1+1+1) b.toNat x.toNat y.toNat ((r).getD 0 0).toNat=if b.toNat % 16*4096+x.toNat % 64*64+y.toNat % 64≥2048∧(b.toNat % 16*4096+x.toNat % 64*64+y.toNat % 64<55296∨(57344≤b.toNat % 16*4096+x.toNat % 64*64+y.toNat % 64∧b.toNat % 16*4096+x.toNat % 64*64+y.toNat % 64≤1114111))then(b.toNat % 16*4096+x.toNat % 64*64+y.toNat % 64,3)else(65533,1):=by
     unfold Lib.decodeN
     rw[if_neg (by omega),if_neg (by omega),if_pos ⟨by omega,⟨by omega,by omega⟩,by omega,by omega⟩]
    rw[hd,e]at hN
    have hpre:((b.toNat-224)*64+(x.toNat-128))*64+(y.toNat-128)=65533→Lib.hasPrefix (b::x::y::r) [239,191,189]=true:=fun h4=>by
     have q1:b.toNat=239:=by omega
     have q2:x.toNat=191:=by omega
     have q3:y.toNat=189:=by omega
     have r1:b=239:=UInt8.toNat_inj.1 q1
     have r2:x=191:=UInt8.toNat_inj.1 q2
     have r3:y=189:=UInt8.toNat_inj.1 q3
     subst r1;subst r2;subst r3
     simp[Lib.hasPrefix,List.isPrefixOf]
    generalize ((b.toNat-224)*64+(x.toNat-128))*64+(y.toNat-128)=v at hN hnx hpre
    by_cases h2:v<2048
    ·rw[if_pos h2]at hnx
     rw[if_neg (by omega)]at hN
     exact bad hnx hN
    ·rw[if_neg h2]at hnx
     by_cases h3:55296≤v∧v<57344∨1114111<v
     ·rw[if_neg (by omega)]at hN
      refine⟨fun _ => .inl hN,fun _ h4=>?_⟩
      rw[hnx]at h4
      have:=(isCharS_iff v).1 h4
      omega
     ·rw[if_pos (by omega)]at hN
      rw[hN,hnx]
      refine⟨fun h3=>?_,fun _ _=>⟨rfl,hpre⟩⟩
      rcases h3 with h3 | h3
      ·simp at h3
      ·exact .inr h3
   ·have hnx:nextR (b::x::y::r)=(0,0):=by
     by_cases hx1:128≤x.toNat∧x.toNat<192
     ·rw[if_pos hx1,if_neg (fun h=>h1 ⟨hx1,h⟩)]at hnx
      exact hnx
     ·rw[if_neg hx1]at hnx
      exact hnx
    refine bad hnx ?_
    rw[hN]
    unfold Lib.decodeN
    rw[if_neg (by omega),if_neg (by omega),if_neg (by omega),if_neg (by omega)]
 ·have hl:leadR b.toNat=some (4,b.toNat-240,65536):=by unfold leadR;rw[if_neg (by omega),if_neg (by omega),if_pos hc]
  rw[hl]at hnx
  simp only at hnx
  cases t with
  | nil=>
   refine bad (by rw[hnx];simp) ?_
   rw[hN]
   unfold Lib.decodeN
   rw[if_neg (by omega),if_neg (by simp),if_neg (by simp),if_neg (by simp)]
  | cons x t=>
  cases t with
  | nil=>
   refine bad (by rw[hnx];simp) ?_
   rw[hN]
   unfold Lib.decodeN
   rw[if_neg (by omega),if_neg (by omega),if_neg (by simp),if_neg (by simp)]
  | cons y t=>
  cases t with
  | nil=>
   refine bad (by rw[hnx];simp) ?_
   rw[hN]
   unfold Lib.decodeN
   rw[if_neg (by omega),if_neg (by omega),if_neg (by omega),if_neg (by simp)]
  | cons z r=>
   simp only[List.length_cons,List.getD_cons_zero,List.getD_cons_succ,contF,Nat.add_one_sub_one]at hnx hN
   rw[if_neg (by omega)]at hnx
   have hx:=x.toNat_lt
   have hy:=y.toNat_lt
   have hz:=z.toNat_lt
   by_cases h1:(128≤x.toNat∧x.toNat<192)∧(128≤y.toNat∧y.toNat<192)∧(128≤z.toNat∧z.toNat<192)
   ·rw[if_pos h1.1,if_pos h1.2.1,if_pos h1.2.2]at hnx
    simp only at hnx
    have e:b.toNat % 8*262144+x.toNat % 64*4096+y.toNat % 64*64+z.toNat % 64=(((b.toNat-240)*64+(x.toNat-128))*64+(y.toNat-128))*64+(z.toNat-128):=by omega
    have hd:Lib.decodeN (r.length+1+1+1+1) b.toNat x.toNat y.toNat z.toNat=if b.toNat % 8*262144+x.toNat % 64*4096+y.toNat % 64*64+z.toNat % 64≥65536∧(b.toNat % 8*262144+x.toNat % 64*4096+y.toNat % 64*64+z.toNat % 64<55296∨(57344≤b.toNat % 8*262144+x.toNat % 64*4096+y.toNat % 64*64+z.toNat % 64∧b.toNat % 8*262144+x.toNat % 64*4096+y.toNat % 64*64+z.toNat % 64≤1114111))then(b.toNat % 8*262144+x.toNat % 64*4096+y.toNat % 64*64+z.toNat % 64,4)else(65533,1):=by
     unfold Lib.decodeN
     rw[if_neg (by omega),if_neg (by omega),if_neg (by omega),if_pos ⟨by omega,⟨by omega,by omega⟩,⟨by omega,by omega⟩,by omega,by omega⟩]
    rw[hd,e]at hN
    generalize (((b.toNat-240)*64+(x.toNat-128))*64+(y.toNat-128))*64+(z.toNat-128)=v at hN hnx
    by_cases h2:v<65536
    ·rw[if_pos h2]at hnx
     rw[if_neg (by omega)]at hN
     exact bad hnx hN
    ·rw[if_neg h2]at hnx
     by_cases h3:1114111<v
     ·rw[if_neg (by omega)]at hN
      refine⟨fun _ => .inl hN,fun _ h4=>?_⟩
      rw[hnx]at h4
      have:=(isCharS_iff v).1 h4
      omega
     ·rw[if_pos (by omega)]at hN
      rw[hN,hnx]
      refine⟨fun h3=>?_,fun _ _=>⟨rfl,fun h4=>?_⟩⟩
      ·rcases h3 with h3 | h3
       ·simp at h3
       ·exact .inr h3
      ·simp only at h4
       omega
   ·have hnx:nextR (b::x::y::z::r)=(0,0):=by
     by_cases hx1:128≤x.toNat∧x.toNat<192
     ·by_cases hy1:128≤y.toNat∧y.toNat<192
      ·rw[if_pos hx1,if_pos hy1,if_neg (fun h=>h1 ⟨hx1,hy1,h⟩)]at hnx
       exact hnx
      ·rw[if_pos hx1,if_neg hy1]at hnx
       exact hnx
     ·rw[if_neg hx1]at hnx
      exact hnx
    refine bad hnx ?_
    rw[hN]
    unfold Lib.decodeN
    rw[if_neg (by omega),if_neg (by omega),if_neg (by omega),if_neg (by omega)]
 ·have hl:leadR b.toNat=none:=by unfold leadR;rw[if_neg (by omega),if_neg (by omega),if_neg (by omega)]
  refine bad (by rw[hnx,hl]) ?_
  rw[hN]
  unfold Lib.decodeN
  rw[if_neg (by omega),if_neg (by omega),if_neg (by omega),if_neg (by omega)]
end Go.Ab
namespace Go.Ab
open Go Go.Lib Go.Proofs
def ptsF:Nat→List UInt8→List Nat
 | 0,_=>[]
 | _+1,[]=>[]
 | f+1,b::l=>(dec (b::l)).1::ptsF f ((b::l).drop (dec (b::l)).2)
def ptsS (s:List UInt8):List Nat:=ptsF s.length s
theorem ptsF_fuel:∀(f g:Nat) (l:List UInt8),l.length≤f→l.length≤g→ptsF f l=ptsF g l
 | 0,0,_,_,_=>rfl
 | 0,g+1,[],_,_=>rfl
 | f+1,0,[],_,_=>rfl
 | f+1,g+1,[],_,_=>rfl
 | 0,_,b::l,h,_=>absurd h (by simp)
 | _,0,b::l,_,h=>absurd h (by simp)
 | f+1,g+1,b::l,hf,hg=>by
  simp only[ptsF]
  have:=dec_pos (l:=b::l) (by simp)
  simp only[List.length_cons]at hf hg
  rw[ptsF_fuel f g _ (by simp only[List.length_drop,List.length_cons];omega) (by simp only[List.length_drop,List.length_cons];omega)]
theorem ptsS_nil:ptsS []=[]:=rfl
theorem ptsS_step {l:List UInt8} (h:l≠[]):ptsS l=(dec l).1::ptsS (l.drop (dec l).2):=by
 cases l with
 | nil=>exact absurd rfl h
 | cons b l=>
  have:=dec_pos (l:=b::l) (by simp)
  unfold ptsS
  simp only[List.length_cons,ptsF]
  rw[ptsF_fuel l.length _ _ (by simp only[List.length_drop,List.length_cons];omega) (Nat.le_refl _)]
theorem countF_pts:∀(f:Nat) (l:List UInt8),countF f l=(ptsF f l).length
 | 0,_=>rfl
 | _+1,[]=>rfl
 | f+1,b::l=>by
  simp only[countF,ptsF,List.length_cons,countF_pts f]
  omega
theorem countS_pts (l:List UInt8):countS l=(ptsS l).length:=countF_pts _ l
def intsA (l:List Nat):List AV:=l.map fun(n:Nat)=>AV.int .i64 (n:Int)
def nameL:List Nat→Nat→Bool→Bool
 | [],colons,first => !first&&decide (colons≤1)
 | c::l,colons,first=>if c=58∧first=false then nameL l (colons+1) true else if partChar first c=true then nameL l colons false else false
def isNameR (s:List UInt8):Bool:=isTextS s&&decide (1≤(ptsS s).length)&&decide ((ptsS s).length≤100)&&nameL (ptsS s) 0 true
end Go.Ab
namespace Go.Ab
open Go Go.Lib Go.Proofs
theorem dec_app {h:UInt8} (t b:List UInt8) {x:UInt8} (hx:x.toNat<128):dec (h::(t++x::b))=dec (h::t):=by
 by_cases hh:h.toNat<128
 ·rw[dec_ascii hh,dec_ascii hh]
 ·rcases dec_split t (b:=h) (by omega)with h1 | ⟨c,m,rfl,_,_,_,h3⟩
  ·rcases dec_split (t++x::b) (b:=h) (by omega)with h2 | ⟨c,m,h4,h5,hc,h6,h3⟩
   ·rw[h1,h2]
   ·have hl:c.length≤t.length:=by
     rcases Nat.lt_or_ge t.length c.length with hlt | hge
     ·exfalso
      have hg:=congrArg (fun l=>l[t.length]?) h4
      simp only[List.getElem?_append_right (Nat.le_refl _),Nat.sub_self,List.getElem?_cons_zero,List.getElem?_append_left hlt]at hg
      have hm:x∈c:=List.mem_of_getElem? hg.symm
      have:=hc x hm
      omega
     ·exact hge
    have hct:t=c++t.drop c.length:=by
     have:=congrArg (List.take c.length) h4
     rw[List.take_append_of_le_length hl,List.take_left]at this
     conv=>lhs;rw[←List.take_append_drop c.length t,this]
    rw[←h3 (t.drop c.length),←hct]
  ·rw[List.append_assoc,h3]
theorem dec_app' {l:List UInt8} (hl:l≠[]) (b:List UInt8) {x:UInt8} (hx:x.toNat<128):dec (l++x::b)=dec l:=by
 cases l with
 | nil=>exact absurd rfl hl
 | cons h t=>exact dec_app t b hx
theorem drop_app {l:List UInt8} (hl:l≠[]) (b:List UInt8) (x:UInt8):(l++x::b).drop (dec l).2=l.drop (dec l).2++x::b:=List.drop_append_of_le_length (dec_le hl)
theorem ptsS_app {x:UInt8} (hx:x.toNat<128) (b:List UInt8):∀(n:Nat) (l:List UInt8),l.length≤n→ptsS (l++x::b)=ptsS l++x.toNat::ptsS b
 | _,[],_=>by
  rw[List.nil_append,ptsS_step (by simp),dec_ascii hx]
  rfl
 | 0,b::l,h=>absurd h (by simp)
 | n+1,h::t,hn=>by
  have hne:h::t≠[]:=by simp
  have hp:=dec_pos hne
  rw[ptsS_step (l:=(h::t)++x::b) (by simp),dec_app' hne b hx,drop_app hne,ptsS_app hx b n _ (by simp only[List.length_drop,List.length_cons]at hn ⊢;omega),ptsS_step hne]
  rfl
theorem ptsS_mem {c:Nat} (hc:c<128):∀(n:Nat) (l:List UInt8),l.length≤n→c∈ptsS l→∃x∈l,x.toNat=c
 | _,[],_,h=>by simp[ptsS_nil]at h
 | 0,b::l,h,_=>absurd h (by simp)
 | n+1,h::t,hn,hm=>by
  have hne:h::t≠[]:=by simp
  have hp:=dec_pos hne
  rw[ptsS_step hne,List.mem_cons]at hm
  rcases hm with hm | hm
  ·by_cases hh:h.toNat<128
   ·rw[dec_ascii hh]at hm
    exact⟨h,by simp,hm.symm⟩
   ·have:=dec_high (t:=t) (b:=h) (by omega)
    omega
  ·obtain⟨x,hx,he⟩:=ptsS_mem hc n _ (by simp only[List.length_drop,List.length_cons]at hn ⊢;omega) hm
   exact⟨x,List.mem_of_mem_drop hx,he⟩
theorem ptsS_ne {l:List UInt8}:ptsS l=[]↔l=[]:=by
 constructor
 ·intro h
  cases l with
  | nil=>rfl
  | cons b l=>rw[ptsS_step (by simp)]at h;cases h
 ·rintro rfl
  rfl
/-! A name, by its points. -/
def partP:Bool→List Nat→Bool
 | _,[]=>true
 | first,c::l=>partChar first (c:Int)&&partP false l
theorem partF_pts:∀(f:Nat) (first:Bool) (l:List UInt8),partF f first l=partP first (ptsF f l)
 | 0,_,_=>by simp[partF,ptsF,partP]
 | _+1,_,[]=>by simp[partF,ptsF,partP]
 | f+1,first,b::l=>by simp only[partF,ptsF,partP,partF_pts f]
theorem isPartS_pts (l:List UInt8):isPartS l=(partP true (ptsS l)&&(l != [])):=by
 unfold isPartS ptsS
 rw[partF_pts]
theorem part58 (first:Bool):partChar first ((58:Nat):Int)=false:=by cases first<;>rfl
theorem nameL_two:∀(l:List Nat) (co:Nat) (first:Bool),2≤co→nameL l co first=false
 | [],co,first,h=>by simp[nameL];omega
 | c::l,co,first,h=>by
  rw[nameL]
  split
  ·exact nameL_two l _ _ (by omega)
  split
  ·exact nameL_two l _ _ h
  ·rfl
theorem nameL_one:∀(l:List Nat) (first:Bool),nameL l 1 first=(partP first l && !(first&&l==[]))
 | [],first=>by cases first<;>simp[nameL,partP]
 | c::l,first=>by
  rw[nameL,partP]
  by_cases h:c=58∧first=false
  ·rw[if_pos h,nameL_two l 2 true (Nat.le_refl _),h.1,h.2,part58]
   rfl
  ·rw[if_neg h]
   cases hp:partChar first (c:Int)with
   | false=>rfl
   | true=>
    rw[if_pos rfl,nameL_one l false]
    simp
theorem nameL_plain:∀(l:List Nat) (first:Bool),58 ∉ l→nameL l 0 first=(partP first l && !(first&&l==[]))
 | [],first,_=>by cases first<;>simp[nameL,partP]
 | c::l,first,h=>by
  have hc:c≠58:=fun e=>h (by simp[e])
  rw[nameL,partP,if_neg (fun h=>hc h.1)]
  cases hp:partChar first (c:Int)with
  | false=>rfl
  | true=>
   rw[if_pos rfl,nameL_plain l false (fun hm=>h (by simp[hm]))]
   simp
theorem nameL_colon (R:List Nat):∀(l:List Nat) (first:Bool),58 ∉ l→nameL (l++58::R) 0 first=(partP first l && !(first&&l==[])&&nameL R 1 true)
 | [],first,_=>by
  cases first
  ·simp[nameL,partP]
  ·rw[List.nil_append,nameL,if_neg (by simp)]
   have:=part58 true
   rw[this]
   simp[partP]
 | c::l,first,h=>by
  have hc:c≠58:=fun e=>h (by simp[e])
  rw[List.cons_append,nameL,partP,if_neg (fun h=>hc h.1)]
  cases hp:partChar first (c:Int)with
  | false=>rfl
  | true=>
   rw[if_pos rfl,nameL_colon R l false (fun hm=>h (by simp[hm]))]
   simp
theorem cut_colon (s:List UInt8):(∃a b,s=a++58::b∧(∀x∈a,x≠58)∧Lib.cut s [58]=(a,b,true))∨((∀x∈s,x≠58)∧Lib.cut s [58]=(s,[],false)):=by
 induction s with
 | nil=>exact .inr ⟨by simp,by simp[Lib.cut,Lib.index]⟩
 | cons c s ih=>
  by_cases hc:c=58
  ·subst hc
   left
   refine⟨[],s,rfl,by simp,?_⟩
   simp[Lib.cut,Lib.index,List.isPrefixOf]
  ·have hp:([58]:List UInt8).isPrefixOf (c::s)=false:=by simp[List.isPrefixOf,Ne.symm hc]
   have hge:=Lib.index_ge s [58]
   rcases ih with ⟨a,b,h1,h2,h3⟩ | ⟨h1,h2⟩
   ·left
    have hi:0≤Lib.index s [58]:=by
     unfold Lib.cut at h3
     split at h3
     ·assumption
     ·cases h3
    refine⟨c::a,b,by rw[h1];rfl,?_,?_⟩
    ·intro x hx
     rcases List.mem_cons.1 hx with rfl | hx
     ·exact hc
     ·exact h2 x hx
    ·unfold Lib.cut at h3 ⊢
     rw[if_pos hi]at h3
     have hix:Lib.index (c::s) [58]=Lib.index s [58]+1:=by
      simp only[Lib.index,hp,Bool.false_eq_true,if_false,beq_iff_eq]
      rw[if_neg (by omega)]
     rw[hix,if_pos (by omega)]
     obtain⟨n,hn⟩:∃n:Nat,Lib.index s [58]=n:=⟨(Lib.index s [58]).toNat,by omega⟩
     rw[hn]at h3 ⊢
     simp only[Int.toNat_natCast,Prod.mk.injEq,and_true,List.length_singleton]at h3
     have e:((n:Int)+1).toNat=n+1:=by omega
     rw[e,List.take_succ_cons,show n+1+([58]:List UInt8).length=(n+1)+1 by rfl,List.drop_succ_cons,h3.1,h3.2]
   ·right
    have hi:¬0≤Lib.index s [58]:=by
     intro hi
     unfold Lib.cut at h2
     rw[if_pos hi]at h2
     simp at h2
    refine⟨?_,?_⟩
    ·intro x hx
     rcases List.mem_cons.1 hx with rfl | hx
     ·exact hc
     ·exact h1 x hx
    ·have hix:Lib.index (c::s) [58] = -1:=by
      simp only[Lib.index,hp,Bool.false_eq_true,if_false,beq_iff_eq]
      rw[if_pos (by omega)]
     unfold Lib.cut
     rw[hix,if_neg (by omega)]
theorem isNameR_eq (s:List UInt8):isNameR s=isNameS s:=by
 unfold isNameR isNameS
 rw[countS_pts]
 have h58:∀l:List UInt8,(∀x∈l,x≠58)→58 ∉ ptsS l:=fun l h hm=>by
  obtain⟨x,hx,he⟩:=ptsS_mem (by omega) _ l (Nat.le_refl _) hm
  exact h x hx (UInt8.toNat_inj.1 he)
 rcases cut_colon s with ⟨a,b,rfl,h2,h3⟩ | ⟨h1,h2⟩
 ·rw[h3,ptsS_app (by decide) b _ a (Nat.le_refl _),isPartS_pts,isPartS_pts]
  have e58:(58:UInt8).toNat=58:=rfl
  rw[e58,nameL_colon _ _ _ (h58 a h2),nameL_one]
  have ha:((ptsS a==[]):Bool)=(a==[]):=by rw[Bool.eq_iff_iff];simp[ptsS_ne]
  have hb:((ptsS b==[]):Bool)=(b==[]):=by rw[Bool.eq_iff_iff];simp[ptsS_ne]
  have hl:decide (1≤(ptsS a++58::ptsS b).length)=true:=by simp;omega
  rw[ha,hb,hl]
  simp[bne,Bool.and_assoc]
 ·rw[h2,isPartS_pts,nameL_plain _ _ (h58 s h1)]
  have ha:((ptsS s==[]):Bool)=(s==[]):=by rw[Bool.eq_iff_iff];simp[ptsS_ne]
  rw[ha]
  cases s with
  | nil=>simp[ptsS_nil,isTextS_nil]
  | cons c s=>
   have hl:decide (1≤(ptsS (c::s)).length)=true:=by rw[ptsS_step (by simp)];simp
   rw[hl]
   simp[bne]
end Go.Ab
