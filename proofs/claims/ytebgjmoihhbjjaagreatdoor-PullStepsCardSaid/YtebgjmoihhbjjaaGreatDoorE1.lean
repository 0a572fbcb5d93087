/- Line ends: what New makes of them, and that texts with other line ends are read alike. -/
import Derived.Test.YtebgjmoihhbjjaaGreatDoorWB
import Derived.Lib.CountLaws
import Derived.Lib.TrimUEq
set_option linter.all false
namespace Go.Ab
open Go Go.Lib Go.Proofs
theorem replaceAll_eq {old new:List UInt8} (hne:(old==new)=false) (s:List UInt8):Lib.replaceAll s old new=Lib.replaceK old new (Lib.count s old) s:=by
  unfold Lib.replaceAll Lib.replace
  rw[hne]
  simp[Lib.replaceNum]
theorem replaceAll_nil {old new:List UInt8} (ho:old≠[]):Lib.replaceAll [] old new=[]:=by
  unfold Lib.replaceAll Lib.replace
  split
  · rfl
  · cases hk:Lib.replaceNum [] old (-1)with
    | zero=>rfl
    | succ k=>cases old with
      | nil=>exact absurd rfl ho
      | cons a o=>simp[Lib.replaceK,Lib.index]
theorem replaceAll_hit {old new s:List UInt8} (hne:(old==new)=false) (ho:old≠[]) (h:old.isPrefixOf s=true):Lib.replaceAll s old new=new++Lib.replaceAll (s.drop old.length) old new:=by
  have hi:Lib.index s old=((0:Nat):Int):=by
    cases s with
    | nil=>cases old with
      | nil=>exact absurd rfl ho
      | cons a o=>simp at h
    | cons b l=>simp only[Lib.index,h,if_true];rfl
  rw[replaceAll_eq hne,replaceAll_eq hne,Lib.count_hit ho hi,Nat.add_comm,Lib.replaceK_hit _ _ _ _ 0 hi]
  simp
theorem replaceAll_miss {old new l:List UInt8} {b:UInt8} (hne:(old==new)=false) (ho:old≠[]) (h:old.isPrefixOf (b::l)=false):Lib.replaceAll (b::l) old new=b::Lib.replaceAll l old new:=by
  have hx:Lib.index (b::l) old=if Lib.index l old == -1 then -1 else Lib.index l old+1:=by simp[Lib.index,h]
  have hge:=Lib.index_ge l old
  rw[replaceAll_eq hne,replaceAll_eq hne]
  by_cases hm:Lib.index l old = -1
  · have h1:Lib.index (b::l) old = -1:=by rw[hx];simp[hm]
    rw[Lib.count_miss hm,Lib.count_miss h1]
    rfl
  · obtain⟨i,hi⟩:∃i:Nat,Lib.index l old=i:=⟨(Lib.index l old).toNat,by omega⟩
    have h1:Lib.index (b::l) old=((i+1:Nat):Int):=by rw[hx,if_neg (by simp[hm]),hi];rfl
    have e:(b::l).drop (i+1+old.length)=l.drop (i+old.length):=by rw[show i+1+old.length=(i+old.length)+1 by omega];rfl
    have c1:=Lib.count_hit ho hi
    have c2:=Lib.count_hit ho h1
    rw[Nat.add_comm]at c1 c2
    rw[c1,c2,Lib.replaceK_hit _ _ _ _ _ h1,Lib.replaceK_hit _ _ _ _ _ hi,e]
    simp
theorem replace1 (l:List UInt8) (c:UInt8) (new:List UInt8) (hne:([c]==new)=false):Lib.replaceAll l [c] new=l.flatMap fun x=>if x=c then new else [x]:=by
  induction l with
  | nil=>exact replaceAll_nil (by simp)
  | cons b l ih=>
    simp only[List.flatMap_cons]
    by_cases h:b=c
    · subst h
      rw[replaceAll_hit hne (by simp) (by simp[List.isPrefixOf]),if_pos rfl]
      simp only[List.length_singleton,List.drop_one,List.tail_cons,ih]
    · rw[replaceAll_miss hne (by simp) (by simp[List.isPrefixOf,Ne.symm h]),if_neg h,ih]
      rfl
theorem linesS_nil:linesS []=[]:=by
  unfold linesS
  rw[replaceAll_nil (by simp),replaceAll_nil (by simp)]
theorem linesS_two (l:List UInt8):linesS (13::10::l)=10::linesS l:=by
  have a:Lib.replaceAll (13::10::l) [13,10] [10]=10::Lib.replaceAll l [13,10] [10]:=replaceAll_hit (by decide) (by simp) (by simp[List.isPrefixOf])
  unfold linesS
  rw[a,replaceAll_miss (by decide) (by simp) (by simp[List.isPrefixOf])]
theorem linesS_cons (b:UInt8) (l:List UInt8) (h:([13,10]:List UInt8).isPrefixOf (b::l)=false):linesS (b::l)=(if b=13 then 10 else b)::linesS l:=by
  unfold linesS
  rw[replaceAll_miss (by decide) (by simp) h]
  by_cases hb:b=13
  · subst hb
    rw[replaceAll_hit (by decide) (by simp) (by simp)]
    rfl
  · rw[replaceAll_miss (by decide) (by simp) (by simp[List.isPrefixOf,Ne.symm hb]),if_neg hb]
theorem linesS_ends (l:List UInt8):linesS l=endsS l:=by
  fun_induction endsS l with
  | case1 l ih=>rw[linesS_two,ih]
  | case2 l hx ih=>
    rw[linesS_cons,ih]
    · rfl
    · cases l with
      | nil=>rfl
      | cons c l=>
        have:c≠10:=fun e=>hx l (by rw[e])
        simp[List.isPrefixOf,Ne.symm this]
  | case3 c l h1 h2 ih=>
    have hc:c≠13:=fun e=>h2 e
    rw[linesS_cons,ih,if_neg hc]
    simp[List.isPrefixOf,Ne.symm hc]
  | case4=>exact linesS_nil
def lfMap (e:List UInt8) (l:List UInt8):List UInt8:=l.flatMap fun x=>if x=10 then e else [x]
theorem lfMap_lf (e l:List UInt8):lfMap e (10::l)=e++lfMap e l:=by simp[lfMap]
theorem lfMap_ne (e:List UInt8) {b:UInt8} (l:List UInt8) (h:b≠10):lfMap e (b::l)=b::lfMap e l:=by simp[lfMap,h]
theorem lfMap_app (e c l:List UInt8) (h:∀x∈c,x≠10):lfMap e (c++l)=c++lfMap e l:=by
  induction c with
  | nil=>rfl
  | cons b c ih=>
    rw[List.cons_append,lfMap_ne e _ (h b (by simp)),ih fun x hx=>h x (by simp[hx])]
    rfl
def IsEnd (e:List UInt8):Prop:=e=[13]∨e=[13,10]
theorem lfMap_head {e:List UInt8} (he:IsEnd e) (l:List UInt8):(lfMap e l).head?≠some 10:=by
  cases l with
  | nil=>simp[lfMap]
  | cons b l=>
    by_cases h:b=10
    · subst h
      rw[lfMap_lf]
      rcases he with rfl | rfl<;>simp
    · rw[lfMap_ne e l h]
      simpa using h
theorem lfMap_inv {e:List UInt8} (he:IsEnd e):∀(c l m:List UInt8),(∀x∈c,128≤x.toNat)→lfMap e l=c++m→∃l',l=c++l'∧m=lfMap e l'
  | [],l,m,_,h=>⟨l,rfl,h.symm⟩
  | x::c,[],m,_,h=>by simp[lfMap]at h
  | x::c,b::l,m,hc,h=>by
    have hx:128≤x.toNat:=hc x (by simp)
    by_cases hb:b=10
    · subst hb
      rw[lfMap_lf]at h
      rcases he with rfl | rfl<;>
      · simp at h
        obtain⟨rfl,_⟩:=h
        exact absurd hx (by decide)
    · rw[lfMap_ne e l hb,List.cons_append,List.cons.injEq]at h
      obtain⟨l',h1,h2⟩:=lfMap_inv he c l m (fun y hy=>hc y (by simp[hy])) h.2
      exact⟨l',by rw[h.1,h1];rfl,h2⟩
theorem endsS_plain:∀(l:List UInt8),(∀x∈l,x≠13)→endsS l=l
  | [],_=>rfl
  | c::l,h=>by
    have hc:c≠13:=h c (by simp)
    have:=endsS_plain l fun x hx=>h x (by simp[hx])
    rw[←linesS_ends]at this ⊢
    rw[linesS_cons _ _ (by simp[List.isPrefixOf,Ne.symm hc]),if_neg hc,this]
theorem endsS_lfMap {e:List UInt8} (he:IsEnd e):∀(l:List UInt8),(∀x∈l,x≠13)→endsS (lfMap e l)=l
  | [],_=>rfl
  | c::l,h=>by
    have hc:c≠13:=h c (by simp)
    have ih:=endsS_lfMap he l fun x hx=>h x (by simp[hx])
    rw[←linesS_ends]at ih ⊢
    by_cases h10:c=10
    · subst h10
      rw[lfMap_lf]
      rcases he with rfl | rfl
      · have hh:=lfMap_head (e:=[13]) (.inl rfl) l
        rw[List.singleton_append,linesS_cons,ih,if_pos rfl]
        cases hm:lfMap [13] l with
        | nil=>rfl
        | cons b m=>
          rw[hm]at hh
          have:b≠10:=by simpa using hh
          simp[List.isPrefixOf,Ne.symm this]
      · show linesS (13::10::lfMap [13,10] l)=_
        rw[linesS_two,ih]
    · rw[lfMap_ne e l h10,linesS_cons _ _ (by simp[List.isPrefixOf,Ne.symm hc]),if_neg hc,ih]
/-! The decoder, behind other line ends. -/
set_option maxRecDepth 100000 in
set_option maxHeartbeats 2000000 in
theorem decodeN_same (n n' w b0 b1 b2 b3 c1 c2 c3:Nat) (hw:(Lib.decodeN n b0 b1 b2 b3).2=w) (h2:2≤w) (hn:w≤n') (e1:c1=b1) (e2:2<w→c2=b2) (e3:3<w→c3=b3):Lib.decodeN n' b0 c1 c2 c3=Lib.decodeN n b0 b1 b2 b3:=by
  subst e1
  unfold Lib.decodeN at hw ⊢
  repeat' split at hw
  all_goals first
    | (exfalso;try simp only at hw
       omega)
    | (try simp only at hw
       subst hw
       first
         | (have E2:=e2 (by omega);subst E2;first | (have E3:=e3 (by omega);subst E3;simp_all) | simp_all)
         | simp_all)
  all_goals (repeat' split)
  all_goals first | (exfalso;omega) | rfl
set_option maxRecDepth 100000 in
set_option maxHeartbeats 2000000 in
theorem decodeN_cont (n b0 b1 b2 b3:Nat) (h0:128≤b0):Lib.decodeN n b0 b1 b2 b3=(65533,1)∨(2≤(Lib.decodeN n b0 b1 b2 b3).2∧(Lib.decodeN n b0 b1 b2 b3).2≤4∧(Lib.decodeN n b0 b1 b2 b3).2≤n∧b1 / 64=2∧(2<(Lib.decodeN n b0 b1 b2 b3).2→b2 / 64=2)∧(3<(Lib.decodeN n b0 b1 b2 b3).2→b3 / 64=2)):=by
  unfold Lib.decodeN
  repeat' split
  all_goals first
    | (exfalso;omega)
    | exact .inl rfl
    | (refine .inr ⟨?_,?_,?_,?_,?_,?_⟩<;>(try simp only)<;>omega)
theorem take_cont:∀(l:List UInt8) (k:Nat),(∀i,i<k→128≤(l.getD i 0).toNat)→∀x∈l.take k,128≤x.toNat
  | [],k,_,x,hx=>by simp at hx
  | b::l,0,_,x,hx=>by simp at hx
  | b::l,k+1,h,x,hx=>by
    rw[List.take_succ_cons,List.mem_cons]at hx
    rcases hx with rfl | hx
    · exact h 0 (by omega)
    · exact take_cont l k (fun i hi=>h (i+1) (by omega)) x hx
theorem dec_split {b:UInt8} (l:List UInt8) (h:128≤b.toNat):dec (b::l)=(65533,1)∨∃c m,l=c++m∧1≤c.length∧(∀x∈c,128≤x.toNat)∧(dec (b::l)).2=1+c.length∧∀m',dec (b::(c++m'))=dec (b::l):=by
  have hN:=Lib.decodeL_N (b::l)
  simp only[List.getD_cons_zero,List.getD_cons_succ]at hN
  rcases decodeN_cont (b::l).length b.toNat (l.getD 0 0).toNat (l.getD 1 0).toNat (l.getD 2 0).toNat h with h1 | ⟨h2,h4,hn,c1,c2,c3⟩
  · exact .inl (hN.trans h1)
  · right
    rw[←hN]at h2 h4 hn c2 c3
    generalize hw:(Lib.decodeL (b::l)).2=w at h2 h4 hn c2 c3
    simp only[List.length_cons]at hn
    have hlen:(l.take (w-1)).length=w-1:=by rw[List.length_take];omega
    refine⟨l.take (w-1),l.drop (w-1),(List.take_append_drop _ _).symm,by omega,take_cont l _ fun i hi=>?_,by rw[hlen];omega,fun m'=>?_⟩
    · rcases Nat.lt_or_ge i 1 with h | h
      · rw[show i=0 by omega];omega
      rcases Nat.lt_or_ge i 2 with h | h
      · rw[show i=1 by omega];have:=c2 (by omega);omega
      · rw[show i=2 by omega];have:=c3 (by omega);omega
    · show Lib.decodeL _=Lib.decodeL _
      have hN2:=Lib.decodeL_N (b::(l.take (w-1)++m'))
      simp only[List.getD_cons_zero,List.getD_cons_succ]at hN2
      rw[hN]at hw
      rw[hN2,hN]
      have g:∀i,i<w-1→(l.take (w-1)++m').getD i 0=l.getD i 0:=fun i hi=>by
        simp only[List.getD_eq_getElem?_getD]
        rw[List.getElem?_append_left (by omega),List.getElem?_take_of_lt hi]
      refine decodeN_same _ _ w _ _ _ _ _ _ _ hw h2 (by simp only[List.length_cons,List.length_append];omega) (by rw[g 0 (by omega)]) (fun h=>by rw[g 1 (by omega)]) fun h=>by rw[g 2 (by omega)]
theorem dec_lfMap {e:List UInt8} (he:IsEnd e) {b:UInt8} (l:List UInt8) (h:128≤b.toNat):dec (b::lfMap e l)=dec (b::l):=by
  rcases dec_split l h with h1 | ⟨c,m,rfl,_,hc,_,h3⟩
  · rcases dec_split (lfMap e l) h with h2 | ⟨c,m,h4,h5,hc,h6,h3⟩
    · rw[h1,h2]
    · obtain⟨l',rfl,_⟩:=lfMap_inv he c l m hc h4
      rw[←h3 l']
  · rw[lfMap_app e c m fun x hx e=>by have:=hc x hx;rw[e]at this;exact absurd this (by decide),h3]
theorem pre_lfMap {e:List UInt8} (he:IsEnd e) (b:UInt8) (l:List UInt8):Lib.hasPrefix (b::lfMap e l) [239,191,189]=Lib.hasPrefix (b::l) [239,191,189]:=by
  rw[Bool.eq_iff_iff]
  unfold Lib.hasPrefix
  simp only[List.isPrefixOf_iff_prefix]
  constructor
  · rintro⟨m,hm⟩
    simp only[List.cons_append,List.nil_append,List.cons.injEq]at hm
    obtain⟨rfl,hm⟩:=hm
    obtain⟨l',rfl,_⟩:=lfMap_inv he [191,189] l m (by decide) hm.symm
    exact⟨l',rfl⟩
  · rintro⟨m,hm⟩
    simp only[List.cons_append,List.nil_append,List.cons.injEq]at hm
    obtain⟨rfl,rfl⟩:=hm
    exact⟨lfMap e m,by rw[lfMap_ne e _ (by decide),lfMap_ne e _ (by decide)];rfl⟩
theorem isTextS_cons (b:UInt8) (l:List UInt8):isTextS (b::l)=(headTextS (b::l)&&isTextS ((b::l).drop (dec (b::l)).2)):=by
  have:=dec_pos (l:=b::l) (by simp)
  unfold isTextS
  simp only[List.length_cons,textF]
  rw[textF_fuel l.length _ _ (by simp only[List.length_drop,List.length_cons];omega) (Nat.le_refl _)]
theorem isTextS_ascii {b:UInt8} (l:List UInt8) (h:b.toNat<128):isTextS (b::l)=(isCharS b.toNat&&isTextS l):=by
  rw[isTextS_cons,headTextS,dec_ascii h]
  have e:((b.toNat==65533):Bool)=false:=by simp;omega
  simp[e]
theorem isTextS_lfMap {e:List UInt8} (he:IsEnd e):∀(n:Nat) (l:List UInt8),l.length≤n→isTextS (lfMap e l)=isTextS l
  | _,[],_=>rfl
  | 0,b::l,h=>absurd h (by simp)
  | n+1,b::l,hn=>by
    simp only[List.length_cons]at hn
    by_cases h10:b=10
    · subst h10
      rw[lfMap_lf,isTextS_ascii l (by decide),←isTextS_lfMap he n l (by omega)]
      rcases he with rfl | rfl
      · rw[List.singleton_append,isTextS_ascii _ (by decide)]
        rfl
      · show isTextS (13::10::lfMap [13,10] l)=_
        rw[isTextS_ascii _ (by decide),isTextS_ascii _ (by decide)]
        rfl
    · rw[lfMap_ne e l h10]
      by_cases hb:b.toNat<128
      · rw[isTextS_ascii _ hb,isTextS_ascii _ hb,isTextS_lfMap he n l (by omega)]
      · have hd:=dec_lfMap he l (b:=b) (by omega)
        rw[isTextS_cons,isTextS_cons,headTextS,headTextS,hd,pre_lfMap he]
        rcases dec_split l (b:=b) (by omega)with h1 | ⟨c,m,rfl,hc1,hc,hw,h3⟩
        · rw[h1]
          show(_&&isTextS (lfMap e l))=(_&&isTextS l)
          rw[isTextS_lfMap he n l (by omega)]
        · rw[hw,lfMap_app e c m fun x hx e=>by have:=hc x hx;rw[e]at this;exact absurd this (by decide)]
          have ed:∀m':List UInt8,(b::(c++m')).drop (1+c.length)=m':=fun m'=>by rw[Nat.add_comm];simp
          rw[ed,ed,isTextS_lfMap he n m (by simp only[List.length_append]at hn;omega)]
theorem lfMap_len {e:List UInt8} (he:IsEnd e) (l:List UInt8):(lfMap e l).length≤2*l.length:=by
  induction l with
  | nil=>simp[lfMap]
  | cons b l ih=>
    by_cases h:b=10
    · subst h
      rw[lfMap_lf]
      rcases he with rfl | rfl<;>simp<;>omega
    · rw[lfMap_ne e l h]
      simp
      omega
theorem all2S_lfMap {e:List UInt8} (he:IsEnd e) {l:List UInt8} (hl:l.length≤500000) (h13:∀x∈l,x≠13):all2S (lfMap e l)=all2S l:=by
  have h1:newErr (lfMap e l)=newErr l:=by
    have:=lfMap_len he l
    have a:¬1048576<(lfMap e l).length:=by omega
    have b:¬1048576<l.length:=by omega
    simp only[newErr,a,b,if_false,isTextS_lfMap he _ l (Nat.le_refl _)]
  unfold all2S
  rw[h1,linesS_ends,linesS_ends,endsS_lfMap he l h13,endsS_plain l h13]
end Go.Ab
