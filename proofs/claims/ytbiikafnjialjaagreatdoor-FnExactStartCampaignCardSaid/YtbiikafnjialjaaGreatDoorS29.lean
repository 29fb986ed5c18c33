/- Part of a proof. -/
import Derived.Deep.LoopGhost
import Derived.Lib.Walk
import Derived.Test.YtbiikafnjialjaaGreatDoorS6
import Derived.Test.YtbiikafnjialjaaGreatDoorS23
set_option linter.all false
open Go.Proofs.Tryz
open List
namespace Go.Proofs
open Go.Ab Go.RowKit
set_option maxRecDepth 1000000 in
set_option maxHeartbeats 4000000 in
def NZ:EY prog 304 3:=by
 intro w b n cap i j c Ty hc KY hcs abU hij hj hone;obtain ⟨i0,hi0,hz0,hz1,hz2⟩:=info_parts (P:=prog) (e:=140) (z:=.agg #[.string "".toUTF8,.string "".toUTF8,.slice none 0 0]) (size:=3) (bytes:=56) caa;have ht:(prog).underlying 34=some (.slice 140):=by kernel_rfl
 obtain⟨news,hnews⟩:∃news,news=(c.toList.drop (j * 3)).take ((n - j) * 3):=⟨_,rfl⟩
 have hns:n * 3<=c.size:=Nat.le_trans (Nat.mul_le_mul_right _ KY) hcs
 have hlen:news.length=(n - j) * 3:=by rw[hnews];simp;omega
 have hget:∀t,t<(n - j) * 3->news[t]? = c[j * 3+t]?:=λt h=>by rw[hnews,getElem?_take_of_lt h,getElem?_drop,Array.getElem?_toList]
 have hcell:∀(k:Nat) (u:Value),c[k]? = some u->w.drew.cell? ⟨b,k,none⟩=some u:=λk u h=>by
  have h2:w.drew.heap[b]? = some (.cells c Ty (0,0)):=hc;simp[World.cell?,h2,h]
 obtain⟨A,hA,hsrc⟩:∃A:Addr,(if cap=j then some (⟨b,0,none⟩:Addr) else some ⟨b,j * 3,none⟩)=some A/\Hid (∀t u,news[t]? = some u->w.drew.cell? (A.add t)=some u):=by
  by_cases h:cap=j
  ·refine⟨⟨b,0,none⟩,by simp[h],λt u hu=>?_⟩;have h0:news.length=0:=by rw[hlen];omega
   rw[List.length_eq_zero_iff.1 h0]at hu;simp at hu
  ·refine⟨⟨b,j * 3,none⟩,by simp[h],λt u hu=>?_⟩
   have ht':t<(n - j) * 3:=by
    have:=(List.getElem?_eq_some_iff.1 hu).1
    rwa [hlen]at this
   rw[hget t ht']at hu;rw[Addr.add_lit];exact hcell _ _ hu
 have s2:Hid (∀u∈news,u.oneCell'=true):=by
  intro u hu;obtain⟨t,ht',rfl⟩:=getElem_of_mem hu;have h3:=getElem?_eq_getElem ht';rw[hlen]at ht';rw[hget t ht']at h3;exact hone _ _ Um h3
 have s1:Hid (news.length=(n - j) * 3):=hlen
 have s4:Hid (w.drew.heap[b]? = some (.cells c Ty (0,0))):=hc
 have s5:Hid (i * 3+news.length<=c.size):=by show _<=_;omega
 obtain⟨c1,hc1⟩:∃c1:Array Value,c1=(c.toList.take (i * 3)++news++c.toList.drop (i * 3+news.length)).toArray:=⟨_,rfl⟩
 have pI:c1.size=c.size:=by
  have:c.toList.length=c.size:=by simp
  rw[hc1];simp only[size_toArray,length_append,length_take,length_drop,hlen];omega
 obtain⟨W1,hW1⟩:∃W1,W1=w.drew.setRow b c1:=⟨_,rfl⟩
 have Qb:W1.heap[b]? = some (.cells c1 Ty (0,0)):=by rw[hW1];exact eE w.drew b c1 c Ty _ hc
 have hW:Hid (W1=w.drew.setRow b (c.toList.take (i * 3)++news++c.toList.drop (i * 3+news.length)).toArray):=by show _=_;rw[hW1,hc1]
 obtain⟨m,hm⟩:∃m,i+(n - j)=m:=⟨_,rfl⟩
 obtain ⟨zs,hzs⟩:∃ zs,zs=(Builtin.zeroCells #[.string "".toUTF8,.string "".toUTF8,.slice none 0 0] (n - m)).toList:=⟨_,rfl⟩
 have hzl:zs.length=(n - m) * 3:=by rw[hzs];simp[Builtin.zeroCells]
 have V1:∀v∈zs,v.oneCell'=true:=by
  rw[hzs];intro v hv;simp only[Builtin.zeroCells,Array.toList_map,mem_map]at hv;obtain⟨k,_,rfl⟩:=hv;have:k % 3<3:=Nat.mod_lt _ Um
  have h4:k % 3=0\/k % 3=1\/k % 3=2:=by omega
  rcases h4 with h4|h4|h4<;>simp[h4]<;>rfl
 obtain⟨c2,hc2⟩:∃c2:Array Value,c2=(c1.toList.take (m * 3)++zs++c1.toList.drop (m * 3+(n - m) * 3)).toArray:=⟨_,rfl⟩
 have hcl:∀ty,(Builtin.clear_ #[34] ty #[.slice (some ⟨b,m * 3,none⟩) (n - m) (cap - m)]).run prog W1=.ok (.tuple #[]) (W1.setRow b c2):=λty=>by
  have:=Cx (P:=prog) W1 34 140 ty i0 _ ht hi0 hz0 b (m * 3) (n - m) (cap - m) Um c1 Ty Qb (by rw[pI];show _+_ * 3<=_;omega) (λv hv=>V1 v (by rw[hzs];exact hv));rw[hc2,hzs];exact this
 have hic:i<=cap:=by omega
 have hjc:j<=cap:=by omega
 have hin:i<=n:=by omega
 have hmn:m<n:=by omega
 have hcm:¬cap=m:=by omega
 have hmc:n<=cap:=by omega
 have hm':Hid (i+(n - j)=m):=hm
 have X0:Aside (n * 3<=c.size/\cap * 3<=c.size):=⟨hns,hcs⟩
 have X:Aside (w.heap[b]? = some (.cells c Ty (0,0))/\W1=w.drew.setRow b c1/\W1.heap[b]? = some (.cells c1 Ty (0,0))/\c1=(c.toList.take (i * 3)++news++c.toList.drop (i * 3+news.length)).toArray/\c2=(c1.toList.take (m * 3)++zs++c1.toList.drop (m * 3+(n - m) * 3)).toArray/\zs.length=(n - m) * 3/\news.length=(n - j) * 3/\c1.size=c.size/\∀t,t<(n - j) * 3->news[t]? = c[j * 3+t]?):=⟨hc,hW1,Qb,hc1,hc2,hzl,hlen,pI,hget⟩
 clear hc hone hget hcell hlen hnews pI Qb hzl V1 hW1 hc1 hc2 hzs hns hcs abU hm
 go_enter func304,ntmps304
 go_wp2_with fail
 go_region_law (refine Fj rfl (.tmp 22) (.tmp 25) 34 rfl 140 i0 3 ht hi0 hz1 b i cap (by simp[Act.eval,Act.put]) A (n - j) (cap - j) news (by simp[Act.eval,Act.put]) s1.out hsrc.out s2.out Um m hm'.out c Ty s4.out s5.out ?_;rw[<- hW.out])
 go_wp2
 go_ret
 obtain⟨x1,x2,x3,x4,x5,x6,x7,x8,x9⟩:=X;have hm:=hm'.out
 have afj:c1.toList.length=c1.size:=by simp
 have vJ:c.toList.length=c.size:=by simp
 have hns:n * 3<=c.size:=X0.1
 have e1:∀k,k<m * 3->c2[k]? = c1[k]?:=λk hk=>by
  rw[x5,<- Array.getElem?_toList,<- Array.getElem?_toList,append_assoc,getElem?_append_left (by rw[length_take];omega),getElem?_take_of_lt hk]
 refine⟨?_,c2,?_,?_,λk hk=>?_,λk hk=>?_,?_⟩
 ·have e0:n - (j - i)=m:=by omega
  rw[e0];rfl
 ·exact eE W1 b c2 c1 Ty _ x3
 ·rw[x5];simp only[size_toArray,length_append,length_take,length_drop,x6];omega
 ·rw[e1 k Um,x4,<- Array.getElem?_toList,<- Array.getElem?_toList,append_assoc,getElem?_append_left (by rw[length_take];omega),getElem?_take_of_lt hk]
 ·rw[e1 _ Um,x4,<- x9 k hk,<- Array.getElem?_toList,append_assoc,getElem?_append_right (by rw[length_take];omega),getElem?_append_left (by rw[length_take];omega)]
  congr 1
  rw[length_take];omega
 ·have k1:=Ext.setRow w.drew b c1 c Ty _ x1 x8
  have k2:=Ext.setRow W1 b c2 c1 Ty _ x3 (by rw[x5];simp only[size_toArray,length_append,length_take,length_drop,x6];omega);rw[x2]at k2 ⊢
  have hb:∀k,(k<w.heap.size/\k≠b)->(k<w.heap.size/\k ∉ [b]):=λk hk=>⟨hk.1,by simpa using hk.2⟩
  have abK:w.heap.size<=(w.drew.setRow b c1).heap.size:=k1.size;refine⟨rfl,rfl,rfl,Nat.le_trans k1.size k2.size,λk hk=>(k2.same k ⟨Nat.lt_of_lt_of_le hk.1 abK,(hb k hk).2⟩).trans (k1.same k (hb k hk)),λq cc T z hq=>?_⟩;obtain⟨c',h1,h2⟩:=k1.shape q cc T z hq;obtain⟨c'',h3,h4⟩:=k2.shape q c' T z h1;exact⟨c'',h3,h4.trans h2⟩
