/- The data of the program as plain data: ranges, clauses, routes and the like, and how their cells lie. No condition. -/
import Derived.Test.YtbjignakkkgpgaaOpen
namespace Go.Proofs.Ytbjignakkkgpgaa
open Go Go.RowKit

structure Rg where
  f : Int
  b : Int
instance layRg : Lay Rg := ⟨2, fun _ cs d => cs = [.int .i64 d.f, .int .i64 d.b] ∧ I64 d.f ∧ I64 d.b,
  fun h _ => h⟩
structure Cl where
  cif : Int
  n : Int
  r : Rg
  refuse : Bool
  like : Int
  mark : Int
  clear : Int
instance layCl : Lay Cl := ⟨8, fun _ cs d => cs = [.int .i64 d.cif, .int .i64 d.n, .int .i64 d.r.f, .int .i64 d.r.b, .bool d.refuse, .int .i64 d.like, .int .i64 d.mark, .int .i64 d.clear] ∧ I64 d.cif ∧ I64 d.n ∧ I64 d.r.f ∧ I64 d.r.b ∧ I64 d.like ∧ I64 d.mark ∧ I64 d.clear,
  fun h _ => h⟩
structure Rt where
  r : Rg
  path : (List Int)
  like : Int
  marks : (List Int)
instance layRt : Lay Rt := ⟨5, fun w cs d => ∃ a_path, ∃ n_path, ∃ c_path, ∃ a_marks, ∃ n_marks, ∃ c_marks, cs = [.int .i64 d.r.f, .int .i64 d.r.b, .slice a_path n_path c_path, .int .i64 d.like, .slice a_marks n_marks c_marks] ∧ I64 d.r.f ∧ I64 d.r.b ∧ SlRd w a_path n_path c_path d.path ∧ I64 d.like ∧ SlRd w a_marks n_marks c_marks d.marks,
  fun ⟨a_path, n_path, c_path, a_marks, n_marks, c_marks, e, h0, h1, h2, h3, h4⟩ hb => ⟨a_path, n_path, c_path, a_marks, n_marks, c_marks, e, h0, h1, SlRd.stays h2 hb, h3, SlRd.stays h4 hb⟩⟩
structure Hd where
  house : Int
  r : Rg
instance layHd : Lay Hd := ⟨3, fun _ cs d => cs = [.int .i64 d.house, .int .i64 d.r.f, .int .i64 d.r.b] ∧ I64 d.house ∧ I64 d.r.f ∧ I64 d.r.b,
  fun h _ => h⟩
structure Se where
  sby : Int
  to : Int
  r : Rg
  path : (List Int)
instance laySe : Lay Se := ⟨5, fun w cs d => ∃ a_path, ∃ n_path, ∃ c_path, cs = [.int .i64 d.sby, .int .i64 d.to, .int .i64 d.r.f, .int .i64 d.r.b, .slice a_path n_path c_path] ∧ I64 d.sby ∧ I64 d.to ∧ I64 d.r.f ∧ I64 d.r.b ∧ SlRd w a_path n_path c_path d.path,
  fun ⟨a_path, n_path, c_path, e, h0, h1, h2, h3, h4⟩ hb => ⟨a_path, n_path, c_path, e, h0, h1, h2, h3, SlRd.stays h4 hb⟩⟩
structure Gt where
  route : Rt
  old : Bool
instance layGt : Lay Gt := ⟨6, fun w cs d => ∃ a_route_path, ∃ n_route_path, ∃ c_route_path, ∃ a_route_marks, ∃ n_route_marks, ∃ c_route_marks, cs = [.int .i64 d.route.r.f, .int .i64 d.route.r.b, .slice a_route_path n_route_path c_route_path, .int .i64 d.route.like, .slice a_route_marks n_route_marks c_route_marks, .bool d.old] ∧ I64 d.route.r.f ∧ I64 d.route.r.b ∧ SlRd w a_route_path n_route_path c_route_path d.route.path ∧ I64 d.route.like ∧ SlRd w a_route_marks n_route_marks c_route_marks d.route.marks,
  fun ⟨a_route_path, n_route_path, c_route_path, a_route_marks, n_route_marks, c_route_marks, e, h0, h1, h2, h3, h4⟩ hb => ⟨a_route_path, n_route_path, c_route_path, a_route_marks, n_route_marks, c_route_marks, e, h0, h1, SlRd.stays h2 hb, h3, SlRd.stays h4 hb⟩⟩
structure Rb where
  house : Int
  up : Bool
  all : (List Gt)
instance layRb : Lay Rb := ⟨3, fun w cs d => ∃ a_all, ∃ n_all, ∃ c_all, cs = [.int .i64 d.house, .bool d.up, .slice a_all n_all c_all] ∧ I64 d.house ∧ SlRd w a_all n_all c_all d.all,
  fun ⟨a_all, n_all, c_all, e, h0, h1⟩ hb => ⟨a_all, n_all, c_all, e, h0, SlRd.stays h1 hb⟩⟩
structure Dl where
  drop : (List Rg)
  tell : (List Rt)
instance layDl : Lay Dl := ⟨2, fun w cs d => ∃ a_drop, ∃ n_drop, ∃ c_drop, ∃ a_tell, ∃ n_tell, ∃ c_tell, cs = [.slice a_drop n_drop c_drop, .slice a_tell n_tell c_tell] ∧ SlRd w a_drop n_drop c_drop d.drop ∧ SlRd w a_tell n_tell c_tell d.tell,
  fun ⟨a_drop, n_drop, c_drop, a_tell, n_tell, c_tell, e, h0, h1⟩ hb => ⟨a_drop, n_drop, c_drop, a_tell, n_tell, c_tell, e, SlRd.stays h0 hb, SlRd.stays h1 hb⟩⟩
structure En where
  r : Rg
  via : Int
instance layEn : Lay En := ⟨3, fun _ cs d => cs = [.int .i64 d.r.f, .int .i64 d.r.b, .int .i64 d.via] ∧ I64 d.r.f ∧ I64 d.r.b ∧ I64 d.via,
  fun h _ => h⟩

end Go.Proofs.Ytbjignakkkgpgaa
